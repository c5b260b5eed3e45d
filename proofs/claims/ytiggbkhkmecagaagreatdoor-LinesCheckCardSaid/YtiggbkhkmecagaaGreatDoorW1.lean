/- What the functions of the program do: their contracts. -/
import Derived.Test.YtiggbkhkmecagaaGreatDoorV2
import Derived.Test.YtiggbkhkmecagaaGreatDoorTFs
import Derived.Test.YtiggbkhkmecagaaGreatDoorW0
import Derived.Test.YtiggbkhkmecagaaGreatDoorShelfLn
/- Years: the reference's list; two lists of numbers. -/
set_option linter.unusedSimpArgs false
set_option linter.unusedVariables false
namespace Go.Proofs.Lx
open Go.Vm
attribute [local irreducible] awpArr awpBin awpMake awpAppend awpCvX awpStrOf awpBinX awpSlice awpBS awpStore awpAlloc awpCopy awpIndex awpDraw awpIdxX awpFa awpField awpLookup awpUpdate awpDelete awpClear awpRange awpNext awpEntry awpBuild awpClearS awpIdxL awpTree
theorem num4_cons (t : UInt8) (r : List UInt8) (i : Nat) (h : 4 * i + 4 ≤ r.length) : getRes (t :: r) ((1 + 4 * i : Nat) : Int) 4 = [.v (.int .i64 (num4 r i)), .v (.int .i64 0)] := by
  unfold getRes num4
  rw [if_neg (by simp [sized]; omega), if_neg (by simp only [List.length_cons]; omega), Int.toNat_natCast]
  rw [show 1 + 4 * i = (4 * i) + 1 by omega, List.drop_succ_cons]
  rfl
theorem does_rSplit : Does Tryz.prog 274 splitSpec := by
  refine does_of_awpO 1 (good_cons does_refGet good_nil) Tryz.func274 rfl (by decide +kernel) (by decide +kernel) ?_
  rintro args h Q ⟨b, hl, rfl, hq0, hq⟩
  refine ⟨by simp [Tryz.f274], ?_⟩
  rw [awpFuncO_some (by rfl)]
  simp -dsimp only [Vm.E, List.lookup, Nat.reduceAdd, Nat.reduceBEq, Int.reduceBNe, Int.reduceBEq, Bool.true_beq, Bool.false_beq, Tryz.underlying32]
  cases b with
  | nil =>
    have c1 : decide (((0 : Nat) : Int) < 1) = true := rfl
    simp -dsimp only [Vm.G, List.lookup, Nat.reduceAdd, Nat.reduceBEq, Int.reduceBNe, Int.reduceBEq, Nat.reduceLeDiff, q274, c1]
    exact hq0 rfl
  | cons t r =>
    have c1 : decide (((r.length + 1 : Nat) : Int) < 1) = false := decide_eq_false (by omega)
    simp -dsimp only [Vm.G, List.lookup, Nat.reduceAdd, Nat.reduceBEq, Int.reduceBNe, Int.reduceBEq, Nat.reduceLeDiff, q274, c1]
    unfold splitOf at hq0 hq
    by_cases d2 : r.length ≤ 28
    · have c2 : decide (((r.length + 1 : Nat) : Int) > 29) = false := decide_eq_false (by omega)
      simp -dsimp only [Vm.G, List.lookup, Nat.reduceAdd, Nat.reduceBEq, Int.reduceBNe, Int.reduceBEq, Nat.reduceLeDiff, q274, c2]
      refine rem_intro (by decide) ?_
      have e2 : ((r.length + 1 : Nat) : Int).tmod 4 = (((r.length + 1) % 4 : Nat) : Int) := by rw [Int.tmod_eq_emod_of_nonneg (by omega)]; omega
      simp only [e2]
      by_cases d1 : r.length % 4 = 0
      · have c3 : ((((r.length + 1) % 4 : Nat) : Int) != 1) = false := by
          have : (r.length + 1) % 4 = 1 := by omega
          rw [this]; rfl
        have hq' := hq t (numsK r (r.length / 4)) (if_pos ⟨d1, d2⟩)
        clear hq hq0
        obtain ⟨k, hk⟩ : ∃ k, r.length = 4 * k := ⟨r.length / 4, by omega⟩
        rw [show r.length / 4 = k by omega] at hq'
        simp -dsimp only [Vm.G, List.lookup, Nat.reduceAdd, Nat.reduceBEq, Int.reduceBNe, Int.reduceBEq, Nat.reduceLeDiff, q274, c3]
        refine awp_loop (fun m s h' => ∃ i : Nat, i + m = k ∧ h' = h ∧ s = mk [(0, .sl 1 ((t :: r).map encB)), (5, .own true 3 1 ((numsK r i).map encI)), (6, .v (.int .i64 (1 + 4 * i : Nat)))])
          k _ (le_mk _ ?_) ⟨0, by omega, rfl, rfl⟩ ?_
        · simp only [List.forall_mem_cons, List.not_mem_nil, false_imp_iff, implies_true, and_true]
          simp -dsimp only [Vm.E, List.lookup, Nat.reduceAdd, Nat.reduceBEq, Int.reduceBNe, Int.reduceBEq, Bool.true_beq, Bool.false_beq]
          exact ⟨.refl _, .nil _ _ _ (by decide), .refl _⟩
        · rintro m s h' ⟨i, hi, rfl, rfl⟩
          simp -dsimp only [Vm.E, List.lookup, Nat.reduceAdd, Nat.reduceBEq, Int.reduceBNe, Int.reduceBEq, Bool.true_beq, Bool.false_beq, Tryz.underlying32]
          refine cond_intro (fun hc => ?_) (fun hc => ?_)
          · have hlt : i < k := by have := of_decide_eq_true hc; simp only [List.length_cons, List.length_map] at this; omega
            simp -dsimp only [Vm.E, List.lookup, Nat.reduceAdd, Nat.reduceBEq, Int.reduceBNe, Int.reduceBEq, Bool.true_beq, Bool.false_beq]
            refine call_one (S := getSpec) rfl _ GaL.rfl ⟨t :: r, ((1 + 4 * i : Nat) : Int), 4, hl, by omega, rfl, ?_⟩
            simp only [num4_cons t r i (by omega)]
            simp -dsimp only [Vm.E, List.lookup, Nat.reduceAdd, Nat.reduceBEq, Int.reduceBNe, Int.reduceBEq, Bool.true_beq, Bool.false_beq, es28]
            refine bs_intro zr3 (by decide) (by decide) rfl rfl (by simp [solid, AV.cells]) ?_
            simp -dsimp only [Vm.E, List.lookup, Nat.reduceAdd, Nat.reduceBEq, Int.reduceBNe, Int.reduceBEq, Bool.true_beq, Bool.false_beq, append_own ei28]
            refine app_sl Tryz.underlying28 (by simp [AV.cells]) (by simp [numsK]; omega) ?_
            simp -dsimp only [Vm.E, List.lookup, Nat.reduceAdd, Nat.reduceBEq, Int.reduceBNe, Int.reduceBEq, Bool.true_beq, Bool.false_beq]
            refine kept_intro ⟨k - (i + 1), by omega, _, le_mk [(0, .sl 1 ((t :: r).map encB)), (5, .own true 3 1 ((numsK r (i + 1)).map encI)), (6, .v (.int .i64 (1 + 4 * (i + 1) : Nat)))] ?_, i + 1, by omega, rfl, rfl⟩
            have ew : IntKind.i64.wrap (((1 + 4 * i : Nat) : Int) + 4) = ((1 + 4 * (i + 1) : Nat) : Int) := by rw [wrap_i64 (by omega) (by omega)]; omega
            have en : (numsK r i).map encI ++ [AV.v (.int .i64 (num4 r i))] = (numsK r (i + 1)).map encI := by simp [numsK, List.range_succ, encI]
            simp only [List.forall_mem_cons, List.not_mem_nil, false_imp_iff, implies_true, and_true]
            simp -dsimp only [Vm.E, List.lookup, Nat.reduceAdd, Nat.reduceBEq, Int.reduceBNe, Int.reduceBEq, Bool.true_beq, Bool.false_beq, ew, en]
            exact ⟨.refl _, .refl _, .refl _⟩
          · have hge : ¬ i < k := by have := of_decide_eq_false hc; simp only [List.length_cons, List.length_map] at this; omega
            obtain rfl : i = k := by omega
            simp -dsimp only [Vm.E, List.lookup, Nat.reduceAdd, Nat.reduceBEq, Int.reduceBNe, Int.reduceBEq, Bool.true_beq, Bool.false_beq, es32, as32]
            refine idx_bytes (t :: r) 0 (by simp) ?_
            simp -dsimp only [Vm.E, List.lookup, Nat.reduceAdd, Nat.reduceBEq, Int.reduceBNe, Int.reduceBEq, Bool.true_beq, Bool.false_beq, of5, Tryz.results274]
            exact hq'
      · have c3 : ((((r.length + 1) % 4 : Nat) : Int) != 1) = true := by simp; omega
        simp -dsimp only [Vm.G, List.lookup, Nat.reduceAdd, Nat.reduceBEq, Int.reduceBNe, Int.reduceBEq, Nat.reduceLeDiff, q274, c3]
        exact hq0 (if_neg (by omega))
    · have c2 : decide (((r.length + 1 : Nat) : Int) > 29) = true := decide_eq_true (by omega)
      simp -dsimp only [Vm.G, List.lookup, Nat.reduceAdd, Nat.reduceBEq, Int.reduceBNe, Int.reduceBEq, Nat.reduceLeDiff, q274, c2]
      exact hq0 (if_neg (by omega))
def ofOf (key : List UInt8) (tag : UInt8) (many : Int) : Option (List Int) := match splitOf key with
  | some (t, l) => if t = tag ∧ (l.length : Int) = many then some l else none
  | none => none
def rOfSpec : Vm.Spec := fun args h Q => ∃ (b : List UInt8) (tag : UInt8) (many : Int), b.length ≤ 4611686018427387904 ∧ args = [.sl 1 (b.map encB), .v (.int .u8 tag.toNat), .v (.int .i64 many)] ∧
  (ofOf b tag many = none → Q (.tup [.v (.slice none 0 0), .v (.bool false)]) h) ∧ (∀ l, ofOf b tag many = some l → Q (.otup 0 true 3 1 (l.map encI) [.any, .v (.bool true)]) h)
theorem does_rOf : Does Tryz.prog 234 rOfSpec := by
  refine does_of_awpO 0 (good_cons does_rSplit good_nil) Tryz.func234 rfl (by decide +kernel) (by decide +kernel) ?_
  rintro args h Q ⟨b, tag, many, hl, rfl, hq0, hq⟩
  refine ⟨by simp [Tryz.f234], ?_⟩
  rw [awpFuncO_some (by rfl)]
  unfold ofOf at hq0 hq
  simp -dsimp only [Vm.E, List.lookup, Nat.reduceAdd, Nat.reduceBEq, Int.reduceBNe, Int.reduceBEq, Bool.true_beq, Bool.false_beq]
  refine call_one (S := splitSpec) rfl _ GaL.rfl ⟨b, hl, rfl, fun hs => ?_, fun t l hs => ?_⟩
  · rw [hs] at hq0
    unfold noKey
    simp -dsimp only [Vm.E, List.lookup, Nat.reduceAdd, Nat.reduceBEq, Int.reduceBNe, Int.reduceBEq, Bool.true_beq, Bool.false_beq, Tryz.results234]
    exact hq0 rfl
  · rw [hs] at hq0 hq
    simp -dsimp only [Vm.E, List.lookup, Nat.reduceAdd, Nat.reduceBEq, Int.reduceBNe, Int.reduceBEq, Bool.true_beq, Bool.false_beq]
    by_cases d1 : t = tag
    · subst d1
      simp -dsimp only [Vm.E, List.lookup, Nat.reduceAdd, Nat.reduceBEq, Int.reduceBNe, Int.reduceBEq, Bool.true_beq, Bool.false_beq, bne_self_eq_false, Tryz.underlying28]
      by_cases d2 : (l.length : Int) = many
      · have c2 : ((l.length : Int) != many) = false := by simp [d2]
        simp -dsimp only [Vm.G, List.lookup, Nat.reduceAdd, Nat.reduceBEq, Int.reduceBNe, Int.reduceBEq, Nat.reduceLeDiff, q234, c2]
        exact hq l (if_pos ⟨rfl, d2⟩)
      · have c2 : ((l.length : Int) != many) = true := by simp [d2]
        simp -dsimp only [Vm.G, List.lookup, Nat.reduceAdd, Nat.reduceBEq, Int.reduceBNe, Int.reduceBEq, Nat.reduceLeDiff, q234, c2]
        exact hq0 (if_neg fun hc => d2 hc.2)
    · have c1 : ((t.toNat : Int) != tag.toNat) = true := by
        simp only [bne_iff_ne, ne_eq]
        exact fun e => d1 (UInt8.toNat_inj.1 (by omega))
      simp -dsimp only [Vm.G, List.lookup, Nat.reduceAdd, Nat.reduceBEq, Int.reduceBNe, Int.reduceBEq, Nat.reduceLeDiff, q234, c1]
      exact hq0 (if_neg fun hc => d1 hc.1)
end Go.Proofs.Lx
/- Nodes that go: IndexFunc and DeleteFunc at nodes (printed by gendel.py out of L15). -/
set_option linter.unusedSimpArgs false
set_option linter.unusedVariables false
namespace Go.Proofs.Lx
open Go.Vm
attribute [local irreducible] awpArr awpBin awpMake awpAppend awpCvX awpStrOf awpBinX awpSlice awpBS awpStore awpAlloc awpCopy awpIndex awpDraw awpIdxX awpFa awpField awpLookup awpUpdate awpDelete awpClear awpRange awpNext awpEntry awpBuild awpClearS awpIdxL
def isNd (x : AV) : Prop := ∃ n : Nd, x = .agg [AV.v (.int .i64 n.year), AV.v (.int .i64 n.id), AV.v (.int .i64 n.parent), AV.v (.int .i64 n.fund), AV.v (.int .i64 n.obj), AV.v (.bool n.abs), AV.v (.int .i64 n.limit), AV.v (.int .i64 n.pre), AV.v (.int .i64 n.enc), AV.v (.int .i64 n.exp), AV.v (.int .i64 n.lapsed), AV.v (.int .i64 n.carried)]
theorem isNd.cells {x : AV} (h : isNd x) : x.cells.length = 12 := by obtain ⟨n, rfl⟩ := h; rfl
end Go.Proofs.Lx
/- The tree of nodes: those of a year, those below one. -/
set_option linter.unusedSimpArgs false
set_option linter.unusedVariables false
namespace Go.Proofs.Lx
open Go.Vm
attribute [local irreducible] awpArr awpBin awpMake awpAppend awpCvX awpStrOf awpBinX awpSlice awpBS awpStore awpAlloc awpCopy awpIndex awpDraw awpIdxX awpFa awpField awpLookup awpUpdate awpDelete awpClear awpRange awpNext awpEntry awpBuild awpClearS awpIdxL
theorem filterMap_step {α β : Type} (g : α → Option β) (l : List α) (i : Nat) (hi : i < l.length) : (l.take (i + 1)).filterMap g = (l.take i).filterMap g ++ (g l[i]).toList := by
  rw [List.take_succ_eq_append_getElem hi, List.filterMap_append]
  cases h : g l[i] <;> simp [h]
theorem filterMap_le {α β : Type} (g : α → Option β) (l : List α) (i : Nat) : ((l.take i).filterMap g).length ≤ i := Nat.le_trans (List.length_filterMap_le ..) (by rw [List.length_take]; omega)
theorem key1_length (t : UInt8) (a : Int) : (keyOf t [a]).length = 5 := by simp [keyOf, packs, be_length]
abbrev w64s (l : List Int) : Int := l.foldl (fun a b => w64 (a + b)) 0
end Go.Proofs.Lx
/- The reference of nodes: ref19, ref28. -/
set_option linter.unusedSimpArgs false
set_option linter.unusedVariables false
namespace Go.Proofs.Lx
open Go.Vm
attribute [local irreducible] awpArr awpBin awpMake awpAppend awpCvX awpStrOf awpBinX awpSlice awpBS awpStore awpAlloc awpCopy awpIndex awpDraw awpIdxX awpFa awpField awpLookup awpUpdate awpDelete awpClear awpRange awpNext awpEntry awpBuild awpClearS awpIdxL awpTree appB awpIdxO eltA treeA
def isI (x : AV) (l : List Int) : Prop := x = .sl 1 (l.map encI) ∨ (l = [] ∧ x = .v (.slice none 0 0))
theorem isI.ga {x : AV} {l : List Int} (h : isI x l) : Ga x (.sl 1 (l.map encI)) := by
  rcases h with rfl | ⟨rfl, rfl⟩
  · exact .refl _
  · exact .nil 1
end Go.Proofs.Lx
/- The law TreeEnds. -/
set_option linter.unusedSimpArgs false
set_option linter.unusedVariables false
namespace Go.Proofs.Lx
open Go.Vm
attribute [local irreducible] awpArr awpBin awpMake awpAppend awpCvX awpStrOf awpBinX awpSlice awpBS awpStore awpAlloc awpCopy awpIndex awpDraw awpIdxX awpFa awpField awpLookup awpUpdate awpDelete awpClear awpRange awpNext awpEntry awpBuild awpClearS awpIdxL
def vnewASpec : Vm.Spec := fun args h Q => args = [nilP] ∧ ∀ V h', isView h' V noF → Q (.ptr V.iv 0) h'
theorem does_vnewA : Does Tryz.prog 13 vnewASpec := does_vnew.imp (by
  rintro args h Q ⟨rfl, hq⟩
  exact ⟨rfl, hq ⟨h.length + 2, h.length, h.length + 1⟩ _ (isView_new h)⟩)
end Go.Proofs.Lx
/- Balances: bal; the law BalBack. -/
set_option linter.unusedSimpArgs false
set_option linter.unusedVariables false
namespace Go.Proofs.Lx
open Go.Vm
attribute [local irreducible] awpArr awpBin awpMake awpAppend awpCvX awpStrOf awpBinX awpSlice awpBS awpStore awpAlloc awpCopy awpIndex awpDraw awpIdxX awpFa awpField awpLookup awpUpdate awpDelete awpClear awpRange awpNext awpEntry awpBuild awpClearS awpIdxL awpTree appB awpIdxO eltA treeA
structure Ln where
  fund : Int
  obj : Int
  node : Int
  amt : Int
def lnCells (x : Ln) : List AV := [.v (.int .i64 x.fund), .v (.int .i64 x.obj), .v (.int .i64 x.node), .v (.int .i64 x.amt)]
def lnAv (x : Ln) : AV := .agg (lnCells x)
end Go.Proofs.Lx
/- Documents, pre-encumbrances: docs.Put, pre. -/
set_option linter.unusedSimpArgs false
set_option linter.unusedVariables false
namespace Go.Proofs.Lx
open Go.Vm
attribute [local irreducible] awpArr awpBin awpMake awpAppend awpCvX awpStrOf awpBinX awpSlice awpBS awpStore awpAlloc awpCopy awpIndex awpDraw awpIdxX awpFa awpField awpLookup awpUpdate awpDelete awpClear awpRange awpNext awpEntry awpBuild awpClearS awpIdxL awpTree appB awpIdxO eltA treeA
def askLn (p : Ln → Bool) : Vm.Spec := fun args h Q => ∃ x : Ln, args = [lnAv x] ∧ Q (.v (.bool (p x))) h
def ixSpecLn (T : Tab) : Vm.Spec := fun args h Q => ∃ (g : FuncId) (p : Ln → Bool) (l : List Ln), T g = some (askLn p) ∧ l.length ≤ 9223372036854775807 ∧ args = [.sl 4 (l.map lnAv), .clo g []] ∧ ∀ i : Int, (l.any p = true ↔ 0 ≤ i) → Q (.v (.int .i64 i)) h
theorem does_ixLn {T : Tab} (hT : Good T) : Does Tryz.prog 177 (ixSpecLn T) := by
  refine does_of_awp hT Tryz.func177 rfl (by decide +kernel) (by decide +kernel) ?_
  rintro args h Q ⟨g, p, l, hg, hl, rfl, hq⟩
  refine ⟨by simp [Tryz.f177], ?_⟩
  rw [awpFunc_some (by rfl)]
  simp -dsimp only [Vm.G, List.lookup, Nat.reduceAdd, Nat.reduceBEq, Int.reduceBNe, Int.reduceBEq, Nat.reduceLeDiff, q177]
  refine awp_loop (fun m s h' => ∃ i : Nat, i + m = l.length ∧ h' = h ∧ (∀ j (hj : j < l.length), j < i → p l[j] = false) ∧ s = mk [(0, .sl 4 (l.map lnAv)), (1, .clo g []), (7, .v (.int .i64 l.length)), (8, .v (.int .i64 i))])
    l.length _ (le_mk _ ?_) ⟨0, by omega, rfl, fun j _ hj => by omega, rfl⟩ ?_
  · simp only [List.forall_mem_cons, List.not_mem_nil, false_imp_iff, implies_true, and_true]
    try simp -dsimp only [Vm.G, List.lookup, Nat.reduceAdd, Nat.reduceBEq, Int.reduceBNe, Int.reduceBEq, Nat.reduceLeDiff, q177]
    repeat' first | exact Fg.refl _ | exact Fg.nil _ _ _ (by decide) | refine And.intro ?_ ?_
  · rintro m s h' ⟨i, hi, rfl, hb, rfl⟩
    simp -dsimp only [Vm.G, List.lookup, Nat.reduceAdd, Nat.reduceBEq, Int.reduceBNe, Int.reduceBEq, Nat.reduceLeDiff, q177]
    refine cond_intro (fun hcc => ?_) (fun hcc => ?_)
    · have hlt : i < l.length := by have := of_decide_eq_true hcc; omega
      obtain ⟨x, hx⟩ : ∃ x, l[i] = x := ⟨_, rfl⟩
      have hw : IntKind.i64.wrap ((i : Int) + 1) = ((i + 1 : Nat) : Int) := by rw [wrap_i64 (by omega) (by omega)]; simp
      simp -dsimp only [Vm.G, List.lookup, Nat.reduceAdd, Nat.reduceBEq, Int.reduceBNe, Int.reduceBEq, Nat.reduceLeDiff, q177]
      refine idx_map lnAv l i hlt ?_
      simp only [hx, lnAv, lnCells]
      simp -dsimp only [Vm.G, List.lookup, Nat.reduceAdd, Nat.reduceBEq, Int.reduceBNe, Int.reduceBEq, Nat.reduceLeDiff, q177, AV.cells]
      refine call_one (S := askLn p) hg _ GaL.rfl ⟨x, rfl, ?_⟩
      cases hp : p x
      · simp -dsimp only [Vm.G, List.lookup, Nat.reduceAdd, Nat.reduceBEq, Int.reduceBNe, Int.reduceBEq, Nat.reduceLeDiff, q177]
        refine kept_intro ⟨l.length - (i + 1), by omega, _, le_mk [(0, .sl 4 (l.map lnAv)), (1, .clo g []), (7, .v (.int .i64 l.length)), (8, .v (.int .i64 (i + 1 : Nat)))] ?_, i + 1, by omega, rfl, fun j hj hj2 => ?_, rfl⟩
        · simp only [List.forall_mem_cons, List.not_mem_nil, false_imp_iff, implies_true, and_true, hw]
          try simp -dsimp only [Vm.G, List.lookup, Nat.reduceAdd, Nat.reduceBEq, Int.reduceBNe, Int.reduceBEq, Nat.reduceLeDiff, q177, hw]
          repeat' first | exact Fg.refl _ | exact Fg.nil _ _ _ (by decide) | refine And.intro ?_ ?_
        · by_cases hji : j = i
          · subst hji; rw [hx]; exact hp
          · exact hb j hj (by omega)
      · simp -dsimp only [Vm.G, List.lookup, Nat.reduceAdd, Nat.reduceBEq, Int.reduceBNe, Int.reduceBEq, Nat.reduceLeDiff, q177]
        exact hq _ ⟨fun _ => by omega, fun _ => List.any_eq_true.2 ⟨x, hx ▸ List.getElem_mem hlt, hp⟩⟩
    · have hge : ¬ i < l.length := by have := of_decide_eq_false hcc; omega
      simp -dsimp only [Vm.G, List.lookup, Nat.reduceAdd, Nat.reduceBEq, Int.reduceBNe, Int.reduceBEq, Nat.reduceLeDiff, q177]
      refine hq _ ⟨fun hm => ?_, fun h0 => by omega⟩
      obtain ⟨x, hx, hp⟩ := List.any_eq_true.1 hm
      obtain ⟨j, hj, rfl⟩ := List.getElem_of_mem hx
      rw [hb j hj (by omega)] at hp; cases hp
def hasSpecLn (T : Tab) : Vm.Spec := fun args h Q => ∃ (g : FuncId) (p : Ln → Bool) (l : List Ln), T g = some (askLn p) ∧ l.length ≤ 9223372036854775807 ∧ args = [.sl 4 (l.map lnAv), .clo g []] ∧ Q (.v (.bool (l.any p))) h
theorem does_hasLn {T : Tab} (hT : Good T) : Does Tryz.prog 102 (hasSpecLn T) := by
  refine does_of_awp (good_cons (does_ixLn hT) good_nil) Tryz.func102 rfl (by decide +kernel) (by decide +kernel) ?_
  rintro args h Q ⟨g, p, l, hg, hl, rfl, hq⟩
  refine ⟨by simp [Tryz.f102], ?_⟩
  rw [awpFunc_some (by rfl)]
  simp -dsimp only [Vm.G, List.lookup, Nat.reduceAdd, Nat.reduceBEq, Int.reduceBNe, Int.reduceBEq, Nat.reduceLeDiff, q102]
  refine call_one (S := ixSpecLn T) rfl _ GaL.rfl ⟨g, p, l, hg, hl, rfl, fun i hi => ?_⟩
  have e : decide (i ≥ 0) = l.any p := by
    cases hx : l.any p
    · rw [hx] at hi; exact decide_eq_false fun h0 => by have := hi.2 h0; cases this
    · exact decide_eq_true (hi.1 hx)
  simp -dsimp only [Vm.G, List.lookup, Nat.reduceAdd, Nat.reduceBEq, Int.reduceBNe, Int.reduceBEq, Nat.reduceLeDiff, q102, e]
  exact hq
structure Dl where
  node : Int
  orig : Int
  liq : Int
  can : Int
def Dl.ok (x : Dl) : Prop := I64 x.node ∧ I64 x.orig ∧ I64 x.liq ∧ I64 x.can
structure Dc where
  id : Int
  kind : Int
  year : Int
  frm : Int
  lines : Int
def Dc.ok (d : Dc) : Prop := I64 d.id ∧ I64 d.kind ∧ I64 d.year ∧ I64 d.frm ∧ I64 d.lines
def dlK (id i : Int) : List UInt8 := keyOf 76 [id, i]
def dlV (x : Dl) : List UInt8 := packOf [x.node, x.orig, x.liq, x.can]
def dcK (id : Int) : List UInt8 := keyOf 68 [id]
def dcV (d : Dc) : List UInt8 := packOf [d.kind, d.year, d.frm, d.lines]
/-- A document's lines, put. -/
def putLines (id : Int) : Nat → List Dl → Fun → Fun
  | _, [], f => f
  | i, x :: r, f => putLines id (i + 1) r (upd f (dlK id i) (some (dlV x)))
def docsF (f : Fun) (id : Int) (d : Dc) (l : List Dl) : Fun := upd (putLines id 0 l (upd f (seqKey 2) (some (be 8 id)))) (dcK id) (some (dcV { d with id := id, lines := l.length }))
def docsPut (f : Fun) (d : Dc) (l : List Dl) : Fun × Int × Int :=
  if l.length = 0 ∨ 6 < l.length then (f, 0, 1)
  else if readOf f (seqKey 2) < 0 ∨ 4294967294 < readOf f (seqKey 2) then (f, 0, 9)
  else (docsF f (readOf f (seqKey 2) + 1) d l, readOf f (seqKey 2) + 1, 0)
/-- Lines' nodes, charged. -/
def chargeL (year : Int) : List Dl → Fun → Bool → Fun × Bool × Int
  | [], f, w => (f, w, 0)
  | x :: r, f, w => if (chargeOf f year x.node ⟨x.orig, 0, 0⟩).2.2 ≠ 0 then ((chargeOf f year x.node ⟨x.orig, 0, 0⟩).1, false, (chargeOf f year x.node ⟨x.orig, 0, 0⟩).2.2)
    else chargeL year r (chargeOf f year x.node ⟨x.orig, 0, 0⟩).1 (w || (chargeOf f year x.node ⟨x.orig, 0, 0⟩).2.1)
attribute [local irreducible] chargeOf chargeL docsPut
def Ln.ok (x : Ln) : Prop := I64 x.fund ∧ I64 x.obj ∧ I64 x.node ∧ I64 x.amt
end Go.Proofs.Lx
/- Lines sorted by their funds: by the kit's law on Go's own sort. -/
set_option linter.unusedSimpArgs false
set_option linter.unusedVariables false
namespace Go.Proofs.Lx
open Go.Vm Go.RowKit
open Go.Sort (SWO flatK HoldsK)
def cmpI (a b : Int) : Int := if a < b then -1 else if a > b then 1 else 0
theorem cmpI_lt (a b : Int) : cmpI a b < 0 ↔ a < b := by
  unfold cmpI
  repeat' split
  all_goals simp
  all_goals omega
theorem cmpI_eq (a b : Int) (h1 : ¬ cmpI a b < 0) (h2 : ¬ cmpI b a < 0) : a = b := by
  rw [cmpI_lt] at h1 h2; omega
theorem cmpI_asymm (a b : Int) (h : cmpI a b < 0) : ¬ cmpI b a < 0 := by
  rw [cmpI_lt] at h ⊢; omega
theorem swo_ints {α : Type} (key : α → Int) : SWO (ltOf fun x y => cmpI (key x) (key y)) := by
  refine ⟨fun x => by simp [ltOf, cmpI], fun x y z h1 h2 => ?_, fun x y z h1 h2 => ?_⟩
  · simp only [ltOf, decide_eq_true_eq, cmpI_lt] at h1 h2 ⊢; omega
  · simp only [ltOf, decide_eq_false_iff_not, cmpI_lt] at h1 h2 ⊢; omega
set_option maxHeartbeats 1000000 in
set_option maxRecDepth 100000 in
theorem isNaN_calls (W : World) (a : Int) : Calls Tryz.prog 104 #[.int .i64 a] W fun e w' => e = .returned (.bool false) ∧ w' = W := by
  have hne : (a != a) = false := by simp
  go_enter Tryz.func104, Tryz.ntmps104
  go_wp2
  go_ret
  simp [hne]
set_option maxHeartbeats 1000000 in
set_option maxRecDepth 100000 in
theorem cmpI_calls (W : World) (a b : Int) : Calls Tryz.prog 34 #[.int .i64 a, .int .i64 b] W fun e w' => e = .returned (.int .i64 (cmpI a b)) ∧ w' = W := by
  have hn := fun a => isNaN_calls W a
  unfold cmpI
  go_enter Tryz.func34, Tryz.ntmps34
  go_wp2_with (go_at_call 104; refine (hn _).mono ?_; rintro e w' ⟨rfl, rfl⟩)
  all_goals go_ret
  all_goals first | exact ⟨rfl, rfl⟩ | trace_state
set_option maxHeartbeats 1000000 in
set_option maxRecDepth 100000 in
theorem funds1_calls (W : World) (x1 x2 x3 y1 y2 y3 : Value) (a b : Int) (o1 : x1.oneCell' = true) (o2 : x2.oneCell' = true) (o3 : x3.oneCell' = true) (o4 : y1.oneCell' = true) (o5 : y2.oneCell' = true) (o6 : y3.oneCell' = true) :
    Calls Tryz.prog 101 #[.agg #[.int .i64 a, x1, x2, x3], .agg #[.int .i64 b, y1, y2, y3]] W fun e w' => e = .returned (.int .i64 (cmpI a b)) ∧ ∃ q os', w' = Sort.grow (W.drewN q) os' := by
  have hcon := fun W' => cmpI_calls W' a b
  generalize cmpI a b = r at hcon ⊢
  go_enter Tryz.func101, Tryz.ntmps101
  go_wp2_with (go_at_call 34; refine (hcon _).mono ?_; rintro e w' ⟨rfl, rfl⟩)
  go_ret
  exact ⟨rfl, 0, _, by rw [Go.Sort.alloc_eq_grow, Go.Sort.alloc_eq_grow, Go.Sort.grow_grow]; rfl⟩
/-- The world behind a sort. -/
theorem sortW_heap4 {α : Type} [Inhabited α] (enc : α → List Value) (w : World) (b m : Nat) (dk : Array α) (os : Array Obj) :
    (∀ k, k < w.heap.size → k ≠ b → (sortWorldK enc 4 w b 0 m dk os).heap[k]? = w.heap[k]?) ∧ w.heap.size ≤ (sortWorldK enc 4 w b 0 m dk os).heap.size ∧
      ∀ vs e fr, w.heap[b]? = some (.cells vs e fr) → (sortWorldK enc 4 w b 0 m dk os).heap[b]? = some (.cells (Sort.putCells id 0 (flatK enc 4 dk) vs) e fr) := by
  have hs : (Sort.putRow id (Sort.ahead w m) b 0 (flatK enc 4 dk)).heap.size = w.heap.size := by simp [Sort.putRow, Sort.mapBlock, Sort.ahead]
  have hg : ∀ k, k < w.heap.size → (sortWorldK enc 4 w b 0 m dk os).heap[k]? = (w.heap.modify b (Sort.onCells (Sort.putCells id 0 (flatK enc 4 dk))))[k]? := fun k hk => by
    show ((Sort.putRow id (Sort.ahead w m) b 0 (flatK enc 4 dk)).heap ++ os)[k]? = _
    rw [Array.getElem?_append_left (by rw [hs]; exact hk)]; rfl
  refine ⟨fun k hk hne => ?_, ?_, fun vs e fr hb => ?_⟩
  · rw [hg k hk, Array.getElem?_modify, if_neg (fun e => hne e.symm)]
  · show w.heap.size ≤ ((Sort.putRow id (Sort.ahead w m) b 0 (flatK enc 4 dk)).heap ++ os).size
    rw [Array.size_append, hs]; omega
  · rw [hg b (lt_of_heap hb), Array.getElem?_modify, if_pos rfl, hb]; rfl
def sortLnSpec : Vm.Spec := fun args h Q => ∃ (l : List Ln) (h0 : Heap) (c e : Nat), args = [.osl h0.length 0 l.length c, .clo 101 []] ∧ h = h0 ++ [.row e (c * 4) (flat (l.map lnAv))] ∧ (l.map Ln.fund).Nodup ∧ l.length < 4611686018427387904 ∧ l.length ≤ c ∧
  ∀ l' : List Ln, l'.Perm l → l'.Pairwise (fun a b => cmpI a.fund b.fund < 0) → Q (.tup []) (h0 ++ [.row e (c * 4) (flat (l'.map lnAv))])
theorem flat_ln (l : List Ln) (i r : Nat) (hi : i < l.length) (hr : r < 4) : (flat (l.map lnAv))[i * 4 + r]? = (lnAv l[i]).cells[r]? :=
  flat_get (fun x hx => by obtain ⟨p, -, rfl⟩ := List.mem_map.1 hx; rfl) (by rw [List.getElem?_map, List.getElem?_eq_getElem hi]; rfl) r hr
theorem does_sortLn : Does Tryz.prog 100 sortLnSpec := by
  refine ⟨⟨Tryz.f100, Tryz.func100, by kernel_rfl, by decide +kernel⟩, ?_⟩
  rintro args h Q ⟨l, h0, c, e, rfl, rfl, hnd, hln, hlc, hq⟩ w g vs hvs hrep hh hfr hlaid
  have hm : h0.length < g.n := by rw [← hh.n]; simp
  generalize hb : g.loc h0.length = b
  have hrow : RowE w g e (c * 4) (flat (l.map lnAv)) b := by
    have : ObjRep w g (.row e (c * 4) (flat (l.map lnAv))) (g.loc h0.length) := hh.obj h0.length _ (heap_last _ _)
    rw [hb] at this; exact this
  have hblt : b < w.heap.size := by rw [← hb]; exact hh.lt _ hm
  have hv0 : vs.getD 0 undef = .slice (some ⟨b, 0, none⟩) l.length c := by
    have := hrep 0 _ rfl
    generalize vs.getD 0 undef = v at this
    cases this with | osl => rw [hb]
  have hv1 : vs.getD 1 undef = .func (.func 101) #[] #[] := by
    have := hrep 1 _ rfl
    generalize vs.getD 1 undef = v at this
    cases this with | @clo _ _ cv hl hs => rw [Array.eq_empty_of_size_eq_zero (xs := cv) (by simpa using hl)]
  have hvs2 : vs = #[.slice (some ⟨b, 0, none⟩) l.length c, .func (.func 101) #[] #[]] := by
    have h2 : vs.size = 2 := hvs
    apply Array.ext
    · simpa using h2
    · intro i hi1 hi2
      have : i = 0 ∨ i = 1 := by omega
      rcases this with rfl | rfl
      · simpa [Array.getD, h2] using hv0
      · simpa [Array.getD, h2] using hv1
  subst hvs2
  -- what holds behind it, by where the cells went
  have fin : ∀ (w' : World) (l' : List Ln), l'.Perm l → l'.Pairwise (fun a b => cmpI a.fund b.fund < 0) → w'.os = w.os ∧ w'.tape = w.tape ∧ w'.output = w.output → w.heap.size ≤ w'.heap.size → (∀ k, k < w.heap.size → k ≠ b → w'.heap[k]? = w.heap[k]?) →
      (Keeps w g w' g → RowE w' g e (c * 4) (flat (l'.map lnAv)) b) →
      ∃ r h' g' v, Q r h' ∧ Ending.returned (.tuple #[]) = .returned v ∧ ResRep w' g' w.heap.size r v ∧ HeapRep w' g' h' ∧ Vm.Frame w g w' ∧
        g.n ≤ g'.n ∧ (∀ i, i < g.n → g'.loc i = g.loc i) ∧ (∀ b, b < w.heap.size → g'.pub b = g.pub b) ∧ (∀ i, i < g'.n → g.n ≤ i → w.heap.size ≤ g'.loc i) ∧ (∀ b, w'.heap.size ≤ b → g'.pub b = 0) := fun w' l' hp hs hw hsz hblk hrow' => by
    have hpub : g.pub b = 0 := by obtain ⟨-, -, -, -, h4, -⟩ := hrow; exact h4
    have hk : Keeps w g w' g := ⟨fun _ => Nat.le_refl _, fun k j v hj hv => by
      have hkb : k ≠ b := fun e => by rw [e, hpub] at hj; omega
      have hkl : k < w.heap.size := by
        rcases Nat.lt_or_ge k w.heap.size with h | h
        · exact h
        · rw [hfr k h] at hj; omega
      rw [World.cell?_of_block (a := ⟨k, j, none⟩) (hblk k hkl hkb)]; exact hv, Nat.le_refl _, fun _ _ => rfl⟩
    refine ⟨.tup [], h0 ++ [.row e (c * 4) (flat (l'.map lnAv))], g, .tuple #[], hq l' hp hs, rfl, .tup rfl (fun j u hu => by simp at hu), ?_, ?_, Nat.le_refl _, fun _ _ => rfl, fun _ _ => rfl, fun i hi h1 => by omega, fun k hk' => hfr k (Nat.le_trans hsz hk')⟩
    · refine ⟨by rw [← hh.n]; simp, fun i hi => Nat.lt_of_lt_of_le (hh.lt i hi) hsz, hh.inj, fun i o ho => ?_⟩
      rcases Nat.lt_or_ge i h0.length with hi | hi
      · rw [List.getElem?_append_left hi] at ho
        have hig : i < g.n := by omega
        have hne : g.loc i ≠ b := fun e => by
          have := hh.inj i h0.length hig hm (e.trans hb.symm)
          omega
        exact (hh.obj i o (by rw [List.getElem?_append_left hi]; exact ho)).keepAt hk ⟨hblk _ (hh.lt i hig) hne, rfl⟩
      · have hie : i = h0.length := by
          rcases Nat.lt_or_ge i (h0.length + 1) with h | h
          · omega
          · rw [List.getElem?_eq_none (by simp; omega)] at ho; cases ho
        subst hie
        rw [heap_last] at ho
        cases ho
        show RowE _ _ _ _ _ (g.loc h0.length)
        rw [hb]; exact hrow' hk
    · exact ⟨hw.1, hw.2.1, hw.2.2, hsz, fun k hk' hno => hblk k hk' fun e => hno _ hm (hb.trans e.symm)⟩
  by_cases hn : l.length = 0
  · have hl : l = [] := List.eq_nil_of_length_eq_zero hn
    subst hl
    refine (AnyF.slices_SortFunc_none Tryz.sortLine (some ⟨b, 0, none⟩) c _ w).mono ?_
    rintro e' w' ⟨rfl, rfl⟩
    exact fin w' [] (.refl _) .nil ⟨rfl, rfl, rfl⟩ (Nat.le_refl _) (fun _ _ _ => rfl) fun _ => hrow
  · obtain ⟨cur, a1, a2, a3, a4, a5, a6⟩ := hrow
    have hi : Inhabited (Fin l.length) := ⟨⟨0, by omega⟩⟩
    have hfl : (flat (l.map lnAv)).length = l.length * 4 := by
      rw [flat_length (sz := 4) (fun x hx => by obtain ⟨p, -, rfl⟩ := List.mem_map.1 hx; rfl), List.length_map]
    let enc : Fin l.length → List Value := fun i => [cur.getD (i.1 * 4) undef, cur.getD (i.1 * 4 + 1) undef, cur.getD (i.1 * 4 + 2) undef, cur.getD (i.1 * 4 + 3) undef]
    have henc : ∀ (i : Fin l.length) (r : Nat), r < 4 → (enc i)[r]! = cur.getD (i.1 * 4 + r) undef := fun i r hr => by
      have : r = 0 ∨ r = 1 ∨ r = 2 ∨ r = 3 := by omega
      rcases this with rfl | rfl | rfl | rfl <;> rfl
    let cf : Fin l.length → Fin l.length → Int := fun i j => cmpI l[i].fund l[j].fund
    have hcell : ∀ j, j < l.length * 4 → (cur.getD j undef).oneCell' = true := fun j hj => a5 j (by omega)
    have hrepc : ∀ (i : Fin l.length) (r : Nat) (u : AV), r < 4 → (lnAv l[i]).cells[r]? = some u → Rep w g u (cur.getD (i.1 * 4 + r) undef) := fun i r u hr hu => a6 _ u (by rw [flat_ln l i.1 r i.2 hr]; exact hu)
    have h1 : ∀ x, ∀ v ∈ enc x, v.oneCell' = true := fun x v hv => by
      have hx := x.2
      simp only [enc, List.mem_cons, List.not_mem_nil, or_false] at hv
      rcases hv with rfl | rfl | rfl | rfl
      all_goals exact hcell _ (by omega)
    have hkW : ∀ m dk os, Keeps w g (sortWorldK enc 4 w b 0 m dk os) g := fun m dk os => by
      obtain ⟨q1, q2, q3⟩ := sortW_heap4 enc w b m dk os
      exact ⟨fun _ => Nat.le_refl _, fun k j v hj hv => by
        have hkb : k ≠ b := fun e => by rw [e, a4] at hj; omega
        have hkl : k < w.heap.size := by
          rcases Nat.lt_or_ge k w.heap.size with h | h
          · exact h
          · rw [hfr k h] at hj; omega
        rw [World.cell?_of_block (a := ⟨k, j, none⟩) (q1 k hkl hkb)]; exact hv, Nat.le_refl _, fun _ _ => rfl⟩
    have hcmp : CmpLays Tryz.prog 101 #[] enc 4 cf b 0 (List.finRange l.length).toArray.size w := fun m os dk _ x y => by
      have hx := x.2
      have hy := y.2
      have r1 := (rep_v ((hrepc x 0 (.v (.int .i64 l[x].fund)) (by decide) rfl).keep (hkW m dk os))).1
      have r2 := (rep_v ((hrepc y 0 (.v (.int .i64 l[y].fund)) (by decide) rfl).keep (hkW m dk os))).1
      have := funds1_calls (sortWorldK enc 4 w b 0 m dk os) (cur.getD (x.1 * 4 + 1) undef) (cur.getD (x.1 * 4 + 2) undef) (cur.getD (x.1 * 4 + 3) undef) (cur.getD (y.1 * 4 + 1) undef) (cur.getD (y.1 * 4 + 2) undef) (cur.getD (y.1 * 4 + 3) undef) l[x].fund l[y].fund
        (hcell _ (by omega)) (hcell _ (by omega)) (hcell _ (by omega)) (hcell _ (by omega)) (hcell _ (by omega)) (hcell _ (by omega))
      show Calls _ _ #[.agg #[cur.getD (x.1 * 4) undef, _, _, _], .agg #[cur.getD (y.1 * 4) undef, _, _, _]] _ _
      simp only [Nat.add_zero] at r1 r2
      rw [r1, r2]
      exact this
    have hdsz : (List.finRange l.length).toArray.size = l.length := by simp
    have hdg : ∀ i, (hi : i < l.length) → (List.finRange l.length).toArray[i]! = ⟨i, hi⟩ := fun i hi => by
      rw [getElem!_pos _ i (by simpa using hi)]; simp
    have hH : HoldsK enc 4 w b 0 (List.finRange l.length).toArray := fun j hj => by
      rw [Sort.size_flatK, hdsz] at hj
      rw [Nat.zero_add]
      refine ⟨?_, ?_⟩
      · rw [cell_of_row w b j cur e (0, 0) a1, Sort.get_flatK _ _ _ _ (by rw [hdsz]; exact hj), hdg _ (by omega), henc _ _ (by omega)]
        have e1 : j / 4 * 4 + j % 4 = j := by omega
        rw [e1]
        simp [Array.getD, show j < cur.size by omega]
      · simp [World.frozen?, a1]
    have hT : ∀ x y : Fin l.length, (ltOf cf) x y = false → (ltOf cf) y x = false → x = y := fun x y hx hy => by
      simp only [ltOf, decide_eq_false_iff_not] at hx hy
      have := cmpI_eq _ _ hx hy
      have hp := List.pairwise_iff_getElem.1 hnd
      apply Fin.ext
      rcases Nat.lt_trichotomy x.1 y.1 with h | h | h
      · exact absurd (by simpa using this) (hp x.1 y.1 (by simp) (by simp) h)
      · exact h
      · exact absurd (by simpa using this.symm) (hp y.1 x.1 (by simp) (by simp) h)
    have eg : ∀ args w, (callFunc 101 args).run Tryz.prog w = .ok (.enter 101 args) w := enters_of Tryz.func101 (by kernel_rfl) rfl
    have key := AnyQ.slices_SortFunc_total Tryz.sortLine 4 Tryz.isAgg45 Tryz.sizeOf45 enc (fun _ => rfl) h1 cf (swo_ints fun i : Fin l.length => l[i].fund) 101 #[] b 0 c (List.finRange l.length).toArray w eg hcmp hH hblt (by rw [hdsz]; exact hln) hT
    rw [hdsz] at key
    refine Calls.mono key ?_
    rintro e' w' ⟨rfl, m, os, rfl⟩
    have hperm := List.mergeSort_perm (List.finRange l.length) (fun x y => !(ltOf cf) y x)
    have hsort := List.pairwise_mergeSort (le := fun x y => !(ltOf cf) y x) (fun x y z h1 h2 => by
        have hs := (swo_ints fun i : Fin l.length => l[i].fund).ntrans z y x
        simp only [Bool.not_eq_true'] at h1 h2 ⊢
        exact hs h2 h1) (fun x y => by
        cases hxy : ltOf cf y x
        · simp
        · have : ltOf cf x y = false := by
            simp only [ltOf, decide_eq_true_eq, decide_eq_false_iff_not] at hxy ⊢
            exact cmpI_asymm _ _ hxy
          simp [this]) (List.finRange l.length)
    have htl : (List.finRange l.length).toArray.toList = List.finRange l.length := by simp
    rw [htl]
    generalize hds : List.mergeSort (List.finRange l.length) (fun x y => !(ltOf cf) y x) = ds at hperm hsort
    have hlen : ds.length = l.length := by rw [hperm.length_eq]; simp
    have hget : (List.finRange l.length).map (fun i => l[i]) = l := by
      apply List.ext_getElem
      · simp
      · intro i h1 h2; simp
    have hnodup : ds.Nodup := hperm.nodup_iff.2 (List.nodup_finRange _)
    obtain ⟨q1, q2, q3⟩ := sortW_heap4 enc w b m ds.toArray os
    refine fin _ (ds.map fun i => l[i]) ?_ ?_ ⟨rfl, rfl, rfl⟩ q2 q1 fun hk => ?_
    · have := hperm.map fun i : Fin l.length => l[i]
      rw [hget] at this; exact this
    · rw [List.pairwise_map]
      refine (hsort.and hnodup).imp fun {x y} hxy => ?_
      obtain ⟨hle, hne⟩ := hxy
      by_cases hlt : cf x y < 0
      · exact hlt
      · exact absurd (hT x y (by simpa [ltOf] using hlt) (by simpa using hle)) hne
    · refine ⟨_, q3 cur e (0, 0) a1, by simp [Sort.putCells, a2], by rw [flat_length (sz := 4) (fun x hx => by obtain ⟨p, -, rfl⟩ := List.mem_map.1 hx; rfl)]; simp; omega, a4, fun j hj => ?_, fun j u hu => ?_⟩
      all_goals
        have hj' : j < l.length * 4 := by
          have hfl2 : (flat ((ds.map fun i => l[i]).map lnAv)).length = l.length * 4 := by
            rw [flat_length (sz := 4) (fun x hx => by obtain ⟨p, -, rfl⟩ := List.mem_map.1 hx; rfl)]; simp [hlen]
          first
            | omega
            | (rcases Nat.lt_or_ge j (l.length * 4) with h' | h'
               · exact h'
               · rw [List.getElem?_eq_none (by omega)] at hu; cases hu)
        have hjd : j / 4 < ds.length := by omega
        have hnew : (Sort.putCells id 0 (flatK enc 4 ds.toArray) cur).getD j undef = cur.getD (ds[j / 4].1 * 4 + j % 4) undef := by
          have hjc : j < cur.size := by omega
          have e1 : (Sort.putCells id 0 (flatK enc 4 ds.toArray) cur).getD j undef = (flatK enc 4 ds.toArray)[j]! := by
            simp only [Sort.putCells]
            simp [Array.getD, hjc, hlen, hj']
          rw [e1, Sort.get_flatK _ _ _ _ (by simp [hlen]; exact hj'), get!_toArray_fin ds _ hjd, henc _ _ (by omega)]
      · rw [hnew]
        have := ds[j / 4].2
        exact hcell _ (by omega)
      · rw [hnew]
        have hu' : (lnAv l[ds[j / 4]]).cells[j % 4]? = some u := by
          have := flat_ln (ds.map fun i => l[i]) (j / 4) (j % 4) (by simpa using hjd) (by omega)
          rw [show j / 4 * 4 + j % 4 = j by omega, hu] at this
          rw [this]; simp
        exact (hrepc ds[j / 4] (j % 4) u (by omega) hu').keep hk
def sortLnNilSpec : Vm.Spec := fun args h Q => ∃ g, args = [.v (.slice none 0 0), .clo g []] ∧ Q (.tup []) h
theorem does_sortLnNil : Does Tryz.prog 100 sortLnNilSpec := by
  refine ⟨⟨Tryz.f100, Tryz.func100, by kernel_rfl, by decide +kernel⟩, ?_⟩
  rintro args h Q ⟨f, rfl, hq⟩ w g vs hvs hrep hh hfr hlaid
  have hv0 : vs.getD 0 undef = .slice none 0 0 := (rep_v (hrep 0 _ rfl)).1
  have hvs2 : vs = #[.slice none 0 0, vs.getD 1 undef] := by
    have h2 : vs.size = 2 := hvs
    apply Array.ext
    · simpa using h2
    · intro i hi1 hi2
      have : i = 0 ∨ i = 1 := by omega
      rcases this with rfl | rfl
      · simpa [Array.getD, h2] using hv0
      · simp [Array.getD, h2]
  rw [hvs2]
  refine (AnyF.slices_SortFunc_none Tryz.sortLine none 0 _ w).mono ?_
  rintro e' w' ⟨rfl, rfl⟩
  exact ⟨.tup [], h, g, .tuple #[], hq, rfl, .tup rfl (fun j u hu => by simp at hu), hh, ⟨rfl, rfl, rfl, Nat.le_refl _, fun _ _ _ => rfl⟩, Nat.le_refl _, fun _ _ => rfl, fun _ _ => rfl, fun i hi h1 => by omega, hfr⟩
end Go.Proofs.Lx
/- The law SeqnRises: walked. -/
set_option linter.unusedSimpArgs false
set_option linter.unusedVariables false
namespace Go.Proofs.Lx
open Go.Vm
attribute [local irreducible] awpArr awpBin awpMake awpAppend awpCvX awpStrOf awpBinX awpSlice awpBS awpStore awpAlloc awpCopy awpIndex awpDraw awpIdxX awpFa awpField awpLookup awpUpdate awpDelete awpClear awpRange awpNext awpEntry awpBuild
end Go.Proofs.Lx
/- The law SeqnGives. -/
set_option linter.unusedSimpArgs false
set_option linter.unusedVariables false
namespace Go.Proofs.Lx
open Go.Vm
attribute [local irreducible] awpArr awpBin awpMake awpAppend awpCvX awpStrOf awpBinX awpSlice awpBS awpStore awpAlloc awpCopy awpIndex awpDraw awpIdxX awpFa awpField awpLookup awpUpdate awpDelete awpClear awpRange awpNext awpEntry awpBuild awpClearS awpIdxL
end Go.Proofs.Lx
/- The law YearsLive. -/
set_option linter.unusedSimpArgs false
set_option linter.unusedVariables false
namespace Go.Proofs.Lx
open Go.Vm
attribute [local irreducible] awpArr awpBin awpMake awpAppend awpCvX awpStrOf awpBinX awpSlice awpBS awpStore awpAlloc awpCopy awpIndex awpDraw awpIdxX awpFa awpField awpLookup awpUpdate awpDelete awpClear awpRange awpNext awpEntry awpBuild awpClearS awpIdxL awpTree appB awpIdxO eltA treeA
theorem both_rnew {h : Heap} {V : VId} (hV : isView h V noF) : Both (rNewH h) V (rNewId h) noF := by
  refine ⟨by unfold rNewH; exact hV.more _, isRef_new h, fun i hi hm => ?_⟩
  obtain ⟨chg, clk, mem, clk2, h1, h2, h3, -⟩ := hV
  have a1 := get_lt h1
  have a2 := get_lt h2
  have a3 := get_lt h3
  simp only [rNewId, List.mem_cons, List.not_mem_nil, or_false] at hi hm
  omega
def rNewASpec : Vm.Spec := fun args h Q => ∃ V : VId, args = [.sl 2 []] ∧ isView h V noF ∧ ∀ (R : RId) (h' : Heap), Both h' V R noF → Q (.ptr R.iv 0) h'
theorem does_rNewA : Does Tryz.prog 21 rNewASpec := does_rNew.imp (by
  rintro args h Q ⟨V, rfl, hV, hq⟩
  exact ⟨rfl, hq (rNewId h) (rNewH h) (both_rnew hV)⟩)
end Go.Proofs.Lx
/- Charts: chart, ref21. -/
set_option linter.unusedSimpArgs false
set_option linter.unusedVariables false
namespace Go.Proofs.Lx
open Go.Vm
attribute [local irreducible] awpArr awpBin awpMake awpAppend awpCvX awpStrOf awpBinX awpSlice awpBS awpStore awpAlloc awpCopy awpIndex awpDraw awpIdxX awpFa awpField awpLookup awpUpdate awpDelete awpClear awpRange awpNext awpEntry awpBuild awpClearS awpIdxL awpTree appB awpIdxO eltA treeA
def askBy (p : UInt8 → Bool) : Vm.Spec := fun args h Q => ∃ x : UInt8, args = [encB x] ∧ Q (.v (.bool (p x))) h
def ixSpecBy (T : Tab) : Vm.Spec := fun args h Q => ∃ (g : FuncId) (p : UInt8 → Bool) (l : List UInt8), T g = some (askBy p) ∧ l.length ≤ 9223372036854775807 ∧ args = [.sl 1 (l.map encB), .clo g []] ∧ ∀ i : Int, (l.any p = true ↔ 0 ≤ i) → Q (.v (.int .i64 i)) h
theorem does_ixBy {T : Tab} (hT : Good T) : Does Tryz.prog 232 (ixSpecBy T) := by
  refine does_of_awp hT Tryz.func232 rfl (by decide +kernel) (by decide +kernel) ?_
  rintro args h Q ⟨g, p, l, hg, hl, rfl, hq⟩
  refine ⟨by simp [Tryz.f232], ?_⟩
  rw [awpFunc_some (by rfl)]
  simp -dsimp only [Vm.G, List.lookup, Nat.reduceAdd, Nat.reduceBEq, Int.reduceBNe, Int.reduceBEq, Nat.reduceLeDiff, q232]
  refine awp_loop (fun m s h' => ∃ i : Nat, i + m = l.length ∧ h' = h ∧ (∀ j (hj : j < l.length), j < i → p l[j] = false) ∧ s = mk [(0, .sl 1 (l.map encB)), (1, .clo g []), (7, .v (.int .i64 l.length)), (8, .v (.int .i64 i))])
    l.length _ (le_mk _ ?_) ⟨0, by omega, rfl, fun j _ hj => by omega, rfl⟩ ?_
  · simp only [List.forall_mem_cons, List.not_mem_nil, false_imp_iff, implies_true, and_true]
    try simp -dsimp only [Vm.G, List.lookup, Nat.reduceAdd, Nat.reduceBEq, Int.reduceBNe, Int.reduceBEq, Nat.reduceLeDiff, q232]
    repeat' first | exact Fg.refl _ | exact Fg.nil _ _ _ (by decide) | refine And.intro ?_ ?_
  · rintro m s h' ⟨i, hi, rfl, hb, rfl⟩
    simp -dsimp only [Vm.G, List.lookup, Nat.reduceAdd, Nat.reduceBEq, Int.reduceBNe, Int.reduceBEq, Nat.reduceLeDiff, q232]
    refine cond_intro (fun hcc => ?_) (fun hcc => ?_)
    · have hlt : i < l.length := by have := of_decide_eq_true hcc; omega
      obtain ⟨x, hx⟩ : ∃ x, l[i] = x := ⟨_, rfl⟩
      have hw : IntKind.i64.wrap ((i : Int) + 1) = ((i + 1 : Nat) : Int) := by rw [wrap_i64 (by omega) (by omega)]; simp
      simp -dsimp only [Vm.G, List.lookup, Nat.reduceAdd, Nat.reduceBEq, Int.reduceBNe, Int.reduceBEq, Nat.reduceLeDiff, q232]
      refine idx_map encB l i hlt ?_
      simp only [hx, encB]
      simp -dsimp only [Vm.G, List.lookup, Nat.reduceAdd, Nat.reduceBEq, Int.reduceBNe, Int.reduceBEq, Nat.reduceLeDiff, q232, AV.cells]
      refine call_one (S := askBy p) hg _ GaL.rfl ⟨x, rfl, ?_⟩
      cases hp : p x
      · simp -dsimp only [Vm.G, List.lookup, Nat.reduceAdd, Nat.reduceBEq, Int.reduceBNe, Int.reduceBEq, Nat.reduceLeDiff, q232]
        refine kept_intro ⟨l.length - (i + 1), by omega, _, le_mk [(0, .sl 1 (l.map encB)), (1, .clo g []), (7, .v (.int .i64 l.length)), (8, .v (.int .i64 (i + 1 : Nat)))] ?_, i + 1, by omega, rfl, fun j hj hj2 => ?_, rfl⟩
        · simp only [List.forall_mem_cons, List.not_mem_nil, false_imp_iff, implies_true, and_true, hw]
          try simp -dsimp only [Vm.G, List.lookup, Nat.reduceAdd, Nat.reduceBEq, Int.reduceBNe, Int.reduceBEq, Nat.reduceLeDiff, q232, hw]
          repeat' first | exact Fg.refl _ | exact Fg.nil _ _ _ (by decide) | refine And.intro ?_ ?_
        · by_cases hji : j = i
          · subst hji; rw [hx]; exact hp
          · exact hb j hj (by omega)
      · simp -dsimp only [Vm.G, List.lookup, Nat.reduceAdd, Nat.reduceBEq, Int.reduceBNe, Int.reduceBEq, Nat.reduceLeDiff, q232]
        exact hq _ ⟨fun _ => by omega, fun _ => List.any_eq_true.2 ⟨x, hx ▸ List.getElem_mem hlt, hp⟩⟩
    · have hge : ¬ i < l.length := by have := of_decide_eq_false hcc; omega
      simp -dsimp only [Vm.G, List.lookup, Nat.reduceAdd, Nat.reduceBEq, Int.reduceBNe, Int.reduceBEq, Nat.reduceLeDiff, q232]
      refine hq _ ⟨fun hm => ?_, fun h0 => by omega⟩
      obtain ⟨x, hx, hp⟩ := List.any_eq_true.1 hm
      obtain ⟨j, hj, rfl⟩ := List.getElem_of_mem hx
      rw [hb j hj (by omega)] at hp; cases hp
def hasSpecBy (T : Tab) : Vm.Spec := fun args h Q => ∃ (g : FuncId) (p : UInt8 → Bool) (l : List UInt8), T g = some (askBy p) ∧ l.length ≤ 9223372036854775807 ∧ args = [.sl 1 (l.map encB), .clo g []] ∧ Q (.v (.bool (l.any p))) h
theorem does_hasBy {T : Tab} (hT : Good T) : Does Tryz.prog 166 (hasSpecBy T) := by
  refine does_of_awp (good_cons (does_ixBy hT) good_nil) Tryz.func166 rfl (by decide +kernel) (by decide +kernel) ?_
  rintro args h Q ⟨g, p, l, hg, hl, rfl, hq⟩
  refine ⟨by simp [Tryz.f166], ?_⟩
  rw [awpFunc_some (by rfl)]
  simp -dsimp only [Vm.G, List.lookup, Nat.reduceAdd, Nat.reduceBEq, Int.reduceBNe, Int.reduceBEq, Nat.reduceLeDiff, q166]
  refine call_one (S := ixSpecBy T) rfl _ GaL.rfl ⟨g, p, l, hg, hl, rfl, fun i hi => ?_⟩
  have e : decide (i ≥ 0) = l.any p := by
    cases hx : l.any p
    · rw [hx] at hi; exact decide_eq_false fun h0 => by have := hi.2 h0; cases this
    · exact decide_eq_true (hi.1 hx)
  simp -dsimp only [Vm.G, List.lookup, Nat.reduceAdd, Nat.reduceBEq, Int.reduceBNe, Int.reduceBEq, Nat.reduceLeDiff, q166, e]
  exact hq
def badC (c : UInt8) : Bool := decide ((c.toNat : Int) < 32) || decide ((c.toNat : Int) > 126)
theorem does_badC : Does Tryz.prog 167 (askBy badC) := by
  refine does_of_awp good_nil Tryz.func167 rfl (by decide +kernel) (by decide +kernel) ?_
  rintro args h Q ⟨c, rfl, hq⟩
  refine ⟨by simp [Tryz.f167], ?_⟩
  rw [awpFunc_some (by rfl)]
  unfold badC at hq
  simp only [encB]
  simp -dsimp only [Vm.G, List.lookup, Nat.reduceAdd, Nat.reduceBEq, Int.reduceBNe, Int.reduceBEq, Nat.reduceLeDiff, q167]
  cases c1 : decide ((c.toNat : Int) < 32)
  · rw [c1] at hq
    simp -dsimp only [Vm.G, List.lookup, Nat.reduceAdd, Nat.reduceBEq, Int.reduceBNe, Int.reduceBEq, Nat.reduceLeDiff, q167]
    exact hq
  · rw [c1] at hq
    simp -dsimp only [Vm.G, List.lookup, Nat.reduceAdd, Nat.reduceBEq, Int.reduceBNe, Int.reduceBEq, Nat.reduceLeDiff, q167]
    exact hq
def badT : Tab := tab [(167, askBy badC)]
theorem good_badT : Good badT := good_cons does_badC good_nil
/-- A name that may be. -/
def nameOk (s : List UInt8) : Bool := !(s.length == 0) && (decide (s.length ≤ 20) && !(s.any badC))
def nameSpec : Vm.Spec := fun args h Q => ∃ s : List UInt8, s.length ≤ 1073741824 ∧ args = [.v (.string ⟨s.toArray⟩)] ∧ Q (.v (.bool (nameOk s))) h
theorem size_mk (s : List UInt8) : (⟨s.toArray⟩ : ByteArray).size = s.length := by simp [ByteArray.size]
theorem toList_no : (ByteArray.mk #[]).toList = [] := by simp [ByteArray.toList_eq]
theorem toList_em : ByteArray.empty.toList = [] := by simp [ByteArray.toList_eq]
theorem does_name : Does Tryz.prog 87 nameSpec := by
  refine does_of_awp (good_cons (does_hasBy good_badT) good_nil) Tryz.func87 rfl (by decide +kernel) (by decide +kernel) ?_
  rintro args h Q ⟨s, hl, rfl, hq⟩
  refine ⟨by simp [Tryz.f87], ?_⟩
  rw [awpFunc_some (by rfl)]
  unfold nameOk at hq
  simp -dsimp only [Vm.G, List.lookup, Nat.reduceAdd, Nat.reduceBEq, Int.reduceBNe, Int.reduceBEq, Nat.reduceLeDiff, q87]
  simp -dsimp only [Vm.E, List.lookup, Nat.reduceAdd, Nat.reduceBEq, Int.reduceBNe, Int.reduceBEq, Bool.true_beq, Bool.false_beq, str_eql, toList_mk, toList_no, toList_em]
  cases s with
  | nil =>
    have c0 : ((([] : List UInt8)) == []) = true := rfl
    simp -dsimp only [Vm.G, List.lookup, Nat.reduceAdd, Nat.reduceBEq, Int.reduceBNe, Int.reduceBEq, Nat.reduceLeDiff, q87, c0]
    exact hq
  | cons a r =>
    have c0 : ((a :: r) == ([] : List UInt8)) = false := rfl
    have e0 : ((a :: r).length == 0) = false := rfl
    rw [e0] at hq
    generalize a :: r = s at hq hl c0 ⊢
    simp -dsimp only [Vm.G, List.lookup, Nat.reduceAdd, Nat.reduceBEq, Int.reduceBNe, Int.reduceBEq, Nat.reduceLeDiff, q87, c0, size_mk]
    by_cases d : s.length ≤ 20
    · have c1 : decide ((s.length : Int) > 20) = false := decide_eq_false (by omega)
      rw [decide_eq_true d] at hq
      simp -dsimp only [Vm.G, List.lookup, Nat.reduceAdd, Nat.reduceBEq, Int.reduceBNe, Int.reduceBEq, Nat.reduceLeDiff, q87, c1]
      refine cvX_bytes bt32 Tryz.underlying9 (by rw [size_mk]; unfold maxLen; omega) ?_
      simp -dsimp only [Vm.G, List.lookup, Nat.reduceAdd, Nat.reduceBEq, Int.reduceBNe, Int.reduceBEq, Nat.reduceLeDiff, q87]
      refine call_one (S := hasSpecBy badT) rfl _ GaL.rfl ⟨167, badC, s, rfl, by omega, rfl, ?_⟩
      simp -dsimp only [Vm.G, List.lookup, Nat.reduceAdd, Nat.reduceBEq, Int.reduceBNe, Int.reduceBEq, Nat.reduceLeDiff, q87]
      exact hq
    · have c1 : decide ((s.length : Int) > 20) = true := decide_eq_true (by omega)
      rw [decide_eq_false d] at hq
      simp -dsimp only [Vm.G, List.lookup, Nat.reduceAdd, Nat.reduceBEq, Int.reduceBNe, Int.reduceBEq, Nat.reduceLeDiff, q87, c1]
      exact hq
def withinSpec : Vm.Spec := fun args h Q => ∃ n lo hi : Int, args = [.v (.int .i64 n), .v (.int .i64 lo), .v (.int .i64 hi)] ∧ Q (.v (.bool (decide (lo ≤ n) && decide (n ≤ hi)))) h
theorem does_withinC : Does Tryz.prog 165 withinSpec := by
  refine does_of_awp good_nil Tryz.func165 rfl (by decide +kernel) (by decide +kernel) ?_
  rintro args h Q ⟨n, lo, hi, rfl, hq⟩
  refine ⟨by simp [Tryz.f165], ?_⟩
  rw [awpFunc_some (by rfl)]
  simp -dsimp only [Vm.G, List.lookup, Nat.reduceAdd, Nat.reduceBEq, Int.reduceBNe, Int.reduceBEq, Nat.reduceLeDiff, q165]
  cases c1 : decide (lo ≤ n)
  · rw [c1] at hq
    simp -dsimp only [Vm.G, List.lookup, Nat.reduceAdd, Nat.reduceBEq, Int.reduceBNe, Int.reduceBEq, Nat.reduceLeDiff, q165]
    exact hq
  · rw [c1] at hq
    simp -dsimp only [Vm.G, List.lookup, Nat.reduceAdd, Nat.reduceBEq, Int.reduceBNe, Int.reduceBEq, Nat.reduceLeDiff, q165]
    exact hq
def fundP (n : Int) : Bool := decide (100 ≤ n) && decide (n ≤ 999)
theorem does_fundC : Does Tryz.prog 86 (predSpec fundP) := by
  refine does_of_awp (good_cons does_withinC good_nil) Tryz.func86 rfl (by decide +kernel) (by decide +kernel) ?_
  rintro args h Q ⟨n, rfl, hq⟩
  refine ⟨by simp [Tryz.f86], ?_⟩
  rw [awpFunc_some (by rfl)]
  simp -dsimp only [Vm.G, List.lookup, Nat.reduceAdd, Nat.reduceBEq, Int.reduceBNe, Int.reduceBEq, Nat.reduceLeDiff, q86]
  refine call_one (S := withinSpec) rfl _ GaL.rfl ⟨n, 100, 999, rfl, ?_⟩
  simp -dsimp only [Vm.G, List.lookup, Nat.reduceAdd, Nat.reduceBEq, Int.reduceBNe, Int.reduceBEq, Nat.reduceLeDiff, q86]
  exact hq
def fixedP (n : Int) : Bool := n == 1010 || (n == 1900 || (n == 2900 || n == 3000))
theorem does_fixedC : Does Tryz.prog 160 (predSpec fixedP) := by
  refine does_of_awp good_nil Tryz.func160 rfl (by decide +kernel) (by decide +kernel) ?_
  rintro args h Q ⟨n, rfl, hq⟩
  refine ⟨by simp [Tryz.f160], ?_⟩
  rw [awpFunc_some (by rfl)]
  unfold fixedP at hq
  simp -dsimp only [Vm.G, List.lookup, Nat.reduceAdd, Nat.reduceBEq, Int.reduceBNe, Int.reduceBEq, Nat.reduceLeDiff, q160]
  cases c1 : (n == 1010)
  · rw [c1] at hq
    simp -dsimp only [Vm.G, List.lookup, Nat.reduceAdd, Nat.reduceBEq, Int.reduceBNe, Int.reduceBEq, Nat.reduceLeDiff, q160]
    cases c2 : (n == 1900)
    · rw [c2] at hq
      simp -dsimp only [Vm.G, List.lookup, Nat.reduceAdd, Nat.reduceBEq, Int.reduceBNe, Int.reduceBEq, Nat.reduceLeDiff, q160]
      cases c3 : (n == 2900)
      · rw [c3] at hq
        simp -dsimp only [Vm.G, List.lookup, Nat.reduceAdd, Nat.reduceBEq, Int.reduceBNe, Int.reduceBEq, Nat.reduceLeDiff, q160]
        cases c4 : (n == 3000)
        · rw [c4] at hq
          simp -dsimp only [Vm.G, List.lookup, Nat.reduceAdd, Nat.reduceBEq, Int.reduceBNe, Int.reduceBEq, Nat.reduceLeDiff, q160]
          exact hq
        · rw [c4] at hq
          simp -dsimp only [Vm.G, List.lookup, Nat.reduceAdd, Nat.reduceBEq, Int.reduceBNe, Int.reduceBEq, Nat.reduceLeDiff, q160]
          exact hq
      · rw [c3] at hq
        simp -dsimp only [Vm.G, List.lookup, Nat.reduceAdd, Nat.reduceBEq, Int.reduceBNe, Int.reduceBEq, Nat.reduceLeDiff, q160]
        exact hq
    · rw [c2] at hq
      simp -dsimp only [Vm.G, List.lookup, Nat.reduceAdd, Nat.reduceBEq, Int.reduceBNe, Int.reduceBEq, Nat.reduceLeDiff, q160]
      exact hq
  · rw [c1] at hq
    simp -dsimp only [Vm.G, List.lookup, Nat.reduceAdd, Nat.reduceBEq, Int.reduceBNe, Int.reduceBEq, Nat.reduceLeDiff, q160]
    exact hq
def fundK (n : Int) : List UInt8 := keyOf 70 [n]
def objK (n : Int) : List UInt8 := keyOf 79 [n]
def cFundSpec : Vm.Spec := fun args h Q => ∃ (V : VId) (f : Fun) (n : Int), args = [.ptr V.iv 0, .v (.int .i64 n)] ∧ isView h V f ∧ (∀ s, f (fundK n) = some s → Q (.tup [.v (.string ⟨s.toArray⟩), .v (.bool true)]) h) ∧ (f (fundK n) = none → Q (.tup [.v (.string ⟨([] : List UInt8).toArray⟩), .v (.bool false)]) h)
theorem does_cFund : Does Tryz.prog 81 cFundSpec := by
  refine does_of_awp (good_cons does_key (good_cons does_vgetW good_nil)) Tryz.func81 rfl (by decide +kernel) (by decide +kernel) ?_
  rintro args h Q ⟨V, f, n, rfl, hV, hq1, hq2⟩
  refine ⟨by simp [Tryz.f81], ?_⟩
  rw [awpFunc_some (by rfl)]
  simp -dsimp only [Vm.G, List.lookup, Nat.reduceAdd, Nat.reduceBEq, Int.reduceBNe, Int.reduceBEq, Nat.reduceLeDiff, q81]
  refine bs_intro zr3 (by decide) (by decide) rfl rfl (by simp [solid, AV.cells]) ?_
  simp -dsimp only [Vm.G, List.lookup, Nat.reduceAdd, Nat.reduceBEq, Int.reduceBNe, Int.reduceBEq, Nat.reduceLeDiff, q81]
  refine call_one (S := keySpec) rfl _ GaL.rfl ⟨70, [n], by simp, rfl, ?_⟩
  simp -dsimp only [Vm.G, List.lookup, Nat.reduceAdd, Nat.reduceBEq, Int.reduceBNe, Int.reduceBEq, Nat.reduceLeDiff, q81]
  refine call_one (S := vgetWSpec) rfl _ GaL.rfl ⟨V, f, fundK n, rfl, hV, fun s hf => ?_, fun hf => ?_⟩
  · simp -dsimp only [Vm.G, List.lookup, Nat.reduceAdd, Nat.reduceBEq, Int.reduceBNe, Int.reduceBEq, Nat.reduceLeDiff, q81]
    refine strOf_sl bt32 s rfl ?_
    simp -dsimp only [Vm.G, List.lookup, Nat.reduceAdd, Nat.reduceBEq, Int.reduceBNe, Int.reduceBEq, Nat.reduceLeDiff, q81]
    exact hq1 s hf
  · simp -dsimp only [Vm.G, List.lookup, Nat.reduceAdd, Nat.reduceBEq, Int.reduceBNe, Int.reduceBEq, Nat.reduceLeDiff, q81]
    refine strOf_sl bt32 [] rfl ?_
    simp -dsimp only [Vm.G, List.lookup, Nat.reduceAdd, Nat.reduceBEq, Int.reduceBNe, Int.reduceBEq, Nat.reduceLeDiff, q81]
    exact hq2 hf
/-- Whether there is an object. -/
def objOk (f : Fun) (n : Int) : Bool := fixedP n || (f (objK n)).isSome
def cObjSpec : Vm.Spec := fun args h Q => ∃ (V : VId) (f : Fun) (n : Int), args = [.ptr V.iv 0, .v (.int .i64 n)] ∧ isView h V f ∧ Q (.v (.bool (objOk f n))) h
theorem does_cObj : Does Tryz.prog 82 cObjSpec := by
  refine does_of_awp (good_cons does_fixedC (good_cons does_key (good_cons does_vgetW good_nil))) Tryz.func82 rfl (by decide +kernel) (by decide +kernel) ?_
  rintro args h Q ⟨V, f, n, rfl, hV, hq⟩
  refine ⟨by simp [Tryz.f82], ?_⟩
  rw [awpFunc_some (by rfl)]
  unfold objOk at hq
  simp -dsimp only [Vm.G, List.lookup, Nat.reduceAdd, Nat.reduceBEq, Int.reduceBNe, Int.reduceBEq, Nat.reduceLeDiff, q82]
  refine call_one (S := predSpec fixedP) rfl _ GaL.rfl ⟨n, rfl, ?_⟩
  cases c1 : fixedP n
  · rw [c1] at hq
    simp -dsimp only [Vm.G, List.lookup, Nat.reduceAdd, Nat.reduceBEq, Int.reduceBNe, Int.reduceBEq, Nat.reduceLeDiff, q82]
    refine bs_intro zr3 (by decide) (by decide) rfl rfl (by simp [solid, AV.cells]) ?_
    simp -dsimp only [Vm.G, List.lookup, Nat.reduceAdd, Nat.reduceBEq, Int.reduceBNe, Int.reduceBEq, Nat.reduceLeDiff, q82]
    refine call_one (S := keySpec) rfl _ GaL.rfl ⟨79, [n], by simp, rfl, ?_⟩
    simp -dsimp only [Vm.G, List.lookup, Nat.reduceAdd, Nat.reduceBEq, Int.reduceBNe, Int.reduceBEq, Nat.reduceLeDiff, q82]
    refine call_one (S := vgetWSpec) rfl _ GaL.rfl ⟨V, f, objK n, rfl, hV, fun s hf => ?_, fun hf => ?_⟩
    · rw [hf] at hq
      simp -dsimp only [Vm.G, List.lookup, Nat.reduceAdd, Nat.reduceBEq, Int.reduceBNe, Int.reduceBEq, Nat.reduceLeDiff, q82]
      exact hq
    · rw [hf] at hq
      simp -dsimp only [Vm.G, List.lookup, Nat.reduceAdd, Nat.reduceBEq, Int.reduceBNe, Int.reduceBEq, Nat.reduceLeDiff, q82]
      exact hq
  · rw [c1] at hq
    simp -dsimp only [Vm.G, List.lookup, Nat.reduceAdd, Nat.reduceBEq, Int.reduceBNe, Int.reduceBEq, Nat.reduceLeDiff, q82]
    exact hq
/-- The number of a pair whose key has one. -/
def numF (p : KV) : Option Int := match splitOf p.1 with
  | some (_, [n]) => some n
  | _ => none
abbrev allF (l : List KV) : List Int := l.filterMap numF
def cAllSpec : Vm.Spec := fun args h Q => ∃ (V : VId) (f : Fun) (tag : UInt8), args = [.ptr V.iv 0, .v (.int .u8 tag.toNat)] ∧ isView h V f ∧ f.n ≤ 536870912 ∧
  ∀ l h', ScanIs f [tag] l → l.length ≤ 2 * f.n → isView h' V f → Same h h' [] → Q (.own true 3 1 ((allF l).map encI)) h'
set_option maxRecDepth 20000 in
set_option maxHeartbeats 1000000 in
theorem does_cAll : Does Tryz.prog 85 cAllSpec := by
  refine does_of_awp (good_cons does_scan (good_cons does_split good_nil)) Tryz.func85 rfl (by decide +kernel) (by decide +kernel) ?_
  rintro args h Q ⟨V, f, tag, rfl, hV, hn, hq⟩
  refine ⟨by simp [Tryz.f85], ?_⟩
  rw [awpFunc_some (by rfl)]
  simp -dsimp only [Vm.G, List.lookup, Nat.reduceAdd, Nat.reduceBEq, Int.reduceBNe, Int.reduceBEq, Nat.reduceLeDiff, q85]
  refine bs_intro zr5 (by decide) (by decide) rfl rfl (by simp [solid, AV.cells]) ?_
  simp -dsimp only [Vm.G, List.lookup, Nat.reduceAdd, Nat.reduceBEq, Int.reduceBNe, Int.reduceBEq, Nat.reduceLeDiff, q85]
  refine call_one (S := scanSpec) rfl _ GaL.rfl ⟨V, f, [tag], rfl, by simp, hV, hn, fun l h1 hsc hln hV1 hs1 => ?_⟩
  simp -dsimp only [Vm.G, List.lookup, Nat.reduceAdd, Nat.reduceBEq, Int.reduceBNe, Int.reduceBEq, Nat.reduceLeDiff, q85]
  refine awp_loop (fun m s h' => ∃ i : Nat, i + m = l.length ∧ h' = h1 ∧ s = mk [(5, .own true 3 1 ((allF (l.take (i))).map encI)), (14, .own true 155 2 (l.map kvAv)), (15, .v (.int .i64 l.length)), (16, .v (.int .i64 (i : Nat)))])
    l.length _ (le_mk _ ?_) ⟨0, by omega, rfl, rfl⟩ ?_
  · simp only [List.forall_mem_cons, List.not_mem_nil, false_imp_iff, implies_true, and_true]
    try simp -dsimp only [Vm.G, List.lookup, Nat.reduceAdd, Nat.reduceBEq, Int.reduceBNe, Int.reduceBEq, Nat.reduceLeDiff, q85]
    repeat' first | exact Fg.refl _ | exact Fg.nil _ _ _ (by decide) | refine And.intro ?_ ?_
  · rintro m s h' ⟨i, hi, rfl, rfl⟩
    simp -dsimp only [Vm.G, List.lookup, Nat.reduceAdd, Nat.reduceBEq, Int.reduceBNe, Int.reduceBEq, Nat.reduceLeDiff, q85]
    refine cond_intro (fun hcc => ?_) (fun hcc => ?_)
    · have hlt : i < l.length := by have := of_decide_eq_true hcc; omega
      have hw : IntKind.i64.wrap ((i : Int) + 1) = ((i + 1 : Nat) : Int) := by rw [wrap_i64 (by omega) (by omega)]; simp
      have hget : (l.map kvAv)[i]? = some (kvAv l[i]) := by simp [hlt]
      have est := filterMap_step numF l i hlt
      have hal : (allF (l.take i)).length ≤ i := filterMap_le numF l i
      have hin := ((hsc.2 l[i].1 l[i].2).1 (List.getElem_mem hlt)).1
      have hkl : l[i].1.length ≤ 32 := hV.klen hin
      clear hin
      generalize l[i] = p at hget est hkl
      obtain ⟨k, v⟩ := p
      simp only at hkl
      have e0 : numF (k, v) = match splitOf k with
        | some (_, [n]) => some n
        | _ => none := rfl
      simp -dsimp only [Vm.G, List.lookup, Nat.reduceAdd, Nat.reduceBEq, Int.reduceBNe, Int.reduceBEq, Nat.reduceLeDiff, q85]
      refine idxO_intro (by omega) (by simp; omega) ?_
      simp -dsimp only [Vm.G, List.lookup, Nat.reduceAdd, Nat.reduceBEq, Int.reduceBNe, Int.reduceBEq, Nat.reduceLeDiff, q85, Int.toNat_natCast]
      refine eltA_intro hget ?_
      simp only [kvAv]
      simp -dsimp only [Vm.G, List.lookup, Nat.reduceAdd, Nat.reduceBEq, Int.reduceBNe, Int.reduceBEq, Nat.reduceLeDiff, q85, AV.cells, List.drop_zero]
      refine call_one (S := splitSpec) rfl _ GaL.rfl ⟨k, by omega, rfl, fun hs => ?_, fun t l' hs => ?_⟩
      · rw [hs] at e0
        simp only at e0
        rw [e0] at est
        unfold noKey
        simp -dsimp only [Vm.G, List.lookup, Nat.reduceAdd, Nat.reduceBEq, Int.reduceBNe, Int.reduceBEq, Nat.reduceLeDiff, q85]
        refine kept_intro ⟨l.length - (i + 1), by omega, _, le_mk [(5, .own true 3 1 ((allF (l.take (i + 1))).map encI)), (14, .own true 155 2 (l.map kvAv)), (15, .v (.int .i64 l.length)), (16, .v (.int .i64 (i + 1 : Nat)))] ?_, i + 1, by omega, rfl, rfl⟩
        simp only [List.forall_mem_cons, List.not_mem_nil, false_imp_iff, implies_true, and_true, hw, est, Option.toList, List.append_nil]
        try simp -dsimp only [Vm.G, List.lookup, Nat.reduceAdd, Nat.reduceBEq, Int.reduceBNe, Int.reduceBEq, Nat.reduceLeDiff, q85, hw, est, Option.toList, List.append_nil]
        repeat' first | exact Fg.refl _ | exact Fg.nil _ _ _ (by decide) | refine And.intro ?_ ?_
      · rw [hs] at e0
        by_cases d3 : l'.length = 1
        · match l', d3 with
          | [n], _ =>
          simp only at e0
          rw [e0] at est
          have k1 : (((1 : Nat) : Int) == 1) = true := rfl
          have g0 : (([n] : List Int).map encI)[(0 : Int).toNat]? = some (encI n) := rfl
          have hl1 : (([n] : List Int).map encI).length = 1 := rfl
          generalize hxs : ([n] : List Int).map encI = xs at g0 hl1 ⊢
          simp -dsimp only [Vm.G, List.lookup, Nat.reduceAdd, Nat.reduceBEq, Int.reduceBNe, Int.reduceBEq, Nat.reduceLeDiff, q85, hl1, k1]
          refine idxO_intro (by decide) (by rw [hl1]; decide) ?_
          simp -dsimp only [Vm.G, List.lookup, Nat.reduceAdd, Nat.reduceBEq, Int.reduceBNe, Int.reduceBEq, Nat.reduceLeDiff, q85]
          refine eltA_intro g0 ?_
          simp only [encI]
          simp -dsimp only [Vm.G, List.lookup, Nat.reduceAdd, Nat.reduceBEq, Int.reduceBNe, Int.reduceBEq, Nat.reduceLeDiff, q85, AV.cells, List.drop_zero]
          refine bs_intro zr3 (by decide) (by decide) rfl rfl (by simp [solid, AV.cells]) ?_
          simp -dsimp only [Vm.G, List.lookup, Nat.reduceAdd, Nat.reduceBEq, Int.reduceBNe, Int.reduceBEq, Nat.reduceLeDiff, q85]
          refine app_sl Tryz.underlying28 (by simp [AV.cells]) (by simp only [List.length_map, List.length_cons, List.length_nil]; omega) ?_
          simp -dsimp only [Vm.G, List.lookup, Nat.reduceAdd, Nat.reduceBEq, Int.reduceBNe, Int.reduceBEq, Nat.reduceLeDiff, q85]
          refine kept_intro ⟨l.length - (i + 1), by omega, _, le_mk [(5, .own true 3 1 ((allF (l.take (i + 1))).map encI)), (14, .own true 155 2 (l.map kvAv)), (15, .v (.int .i64 l.length)), (16, .v (.int .i64 (i + 1 : Nat)))] ?_, i + 1, by omega, rfl, rfl⟩
          simp only [List.forall_mem_cons, List.not_mem_nil, false_imp_iff, implies_true, and_true, hw, est, Option.toList, List.map_append, List.map_cons, List.map_nil, encI]
          try simp -dsimp only [Vm.G, List.lookup, Nat.reduceAdd, Nat.reduceBEq, Int.reduceBNe, Int.reduceBEq, Nat.reduceLeDiff, q85, hw, est, Option.toList, List.map_append, List.map_cons, List.map_nil, encI]
          repeat' first | exact Fg.refl _ | exact Fg.nil _ _ _ (by decide) | refine And.intro ?_ ?_
        · have c3 : ((l'.length : Int) == 1) = false := by simp; omega
          have e0 : numF (k, v) = none := by
            rw [e0]
            split
            · rename_i h2; cases h2; exact absurd rfl d3
            · rfl
          rw [e0] at est
          simp -dsimp only [Vm.G, List.lookup, Nat.reduceAdd, Nat.reduceBEq, Int.reduceBNe, Int.reduceBEq, Nat.reduceLeDiff, q85, c3]
          refine kept_intro ⟨l.length - (i + 1), by omega, _, le_mk [(5, .own true 3 1 ((allF (l.take (i + 1))).map encI)), (14, .own true 155 2 (l.map kvAv)), (15, .v (.int .i64 l.length)), (16, .v (.int .i64 (i + 1 : Nat)))] ?_, i + 1, by omega, rfl, rfl⟩
          simp only [List.forall_mem_cons, List.not_mem_nil, false_imp_iff, implies_true, and_true, hw, est, Option.toList, List.append_nil]
          try simp -dsimp only [Vm.G, List.lookup, Nat.reduceAdd, Nat.reduceBEq, Int.reduceBNe, Int.reduceBEq, Nat.reduceLeDiff, q85, hw, est, Option.toList, List.append_nil]
          repeat' first | exact Fg.refl _ | exact Fg.nil _ _ _ (by decide) | refine And.intro ?_ ?_
    · have hge : ¬ i < l.length := by have := of_decide_eq_false hcc; omega
      simp -dsimp only [Vm.G, List.lookup, Nat.reduceAdd, Nat.reduceBEq, Int.reduceBNe, Int.reduceBEq, Nat.reduceLeDiff, q85]
      rw [List.take_of_length_le (by omega)]
      exact hq l h' hsc hln hV1 hs1
def cFundsSpec : Vm.Spec := fun args h Q => ∃ (V : VId) (f : Fun), args = [.ptr V.iv 0] ∧ isView h V f ∧ f.n ≤ 536870912 ∧
  ∀ l h', ScanIs f [70] l → l.length ≤ 2 * f.n → isView h' V f → Same h h' [] → Q (.own true 3 1 ((allF l).map encI)) h'
theorem does_cFunds : Does Tryz.prog 15 cFundsSpec := by
  refine does_of_awp (good_cons does_cAll good_nil) Tryz.func15 rfl (by decide +kernel) (by decide +kernel) ?_
  rintro args h Q ⟨V, f, rfl, hV, hn, hq⟩
  refine ⟨by simp [Tryz.f15], ?_⟩
  rw [awpFunc_some (by rfl)]
  simp -dsimp only [Vm.G, List.lookup, Nat.reduceAdd, Nat.reduceBEq, Int.reduceBNe, Int.reduceBEq, Nat.reduceLeDiff, q15]
  refine call_one (S := cAllSpec) rfl _ GaL.rfl ⟨V, f, 70, rfl, hV, hn, fun l h1 hsc hln hV1 hs1 => ?_⟩
  simp -dsimp only [Vm.G, List.lookup, Nat.reduceAdd, Nat.reduceBEq, Int.reduceBNe, Int.reduceBEq, Nat.reduceLeDiff, q15]
  exact hq l h1 hsc hln hV1 hs1
/-- There are as many funds as may be. -/
def Many (f : Fun) : Prop := ∃ l, ScanIs f [70] l ∧ 40 ≤ (allF l).length
theorem many_iff {f : Fun} {l : List KV} (h : ScanIs f [70] l) : Many f ↔ 40 ≤ (allF l).length :=
  ⟨fun ⟨l', h1, h2⟩ => by rw [h.same h1]; exact h2, fun h2 => ⟨l, h, h2⟩⟩
open Classical in
noncomputable def newFund (f : Fun) (n : Int) (s : List UInt8) : Fun × Int :=
  if fundP n = true ∧ nameOk s = true then (if f (fundK n) ≠ none then (f, 8) else if Many f then (f, 11) else (upd f (fundK n) (some s), 0)) else (f, 1)
theorem fundK_length (n : Int) : (fundK n).length = 5 := key1_length 70 n
theorem right_fund {n : Int} {s : List UInt8} (h : nameOk s = true) : rightKV (fundK n) s = true := by
  unfold nameOk at h
  simp only [Bool.and_eq_true, decide_eq_true_eq] at h
  simp [rightKV, fundK_length]
  omega
theorem name_len {s : List UInt8} (h : nameOk s = true) : s.length ≤ 20 := by
  unfold nameOk at h
  simp only [Bool.and_eq_true, decide_eq_true_eq] at h
  exact h.2.1
theorem newFund_n (f : Fun) (n : Int) (s : List UInt8) : (newFund f n s).1.n ≤ f.n + 1 := by
  unfold newFund
  repeat' split
  all_goals first | exact Nat.le_succ _ | exact Nat.le_refl _
def cNewSpec : Vm.Spec := fun args h Q => ∃ (V : VId) (f : Fun) (n : Int) (s : List UInt8), s.length ≤ 1073741824 ∧ args = [.ptr V.iv 0, .v (.int .i64 n), .v (.string ⟨s.toArray⟩)] ∧ isView h V f ∧ f.n ≤ 536870912 ∧
  ∀ h', isView h' V (newFund f n s).1 → Same h h' [V.ic] → Q (.v (.int .i64 (newFund f n s).2)) h'
theorem Same.wide {h h' : Heap} {fp : List Nat} (hs : Same h h' []) : Same h h' fp := ⟨hs.1, fun i hi _ => hs.2 i hi (by simp)⟩
set_option maxHeartbeats 1000000 in
theorem does_cNew : Does Tryz.prog 16 cNewSpec := by
  refine does_of_awp (good_cons does_fundC (good_cons does_name (good_cons does_cFund (good_cons does_cFunds (good_cons does_key (good_cons does_vput good_nil)))))) Tryz.func16 rfl (by decide +kernel) (by decide +kernel) ?_
  rintro args h Q ⟨V, f, n, s, hsl, rfl, hV, hn, hq⟩
  refine ⟨by simp [Tryz.f16], ?_⟩
  rw [awpFunc_some (by rfl)]
  unfold newFund at hq
  simp -dsimp only [Vm.G, List.lookup, Nat.reduceAdd, Nat.reduceBEq, Int.reduceBNe, Int.reduceBEq, Nat.reduceLeDiff, q16]
  refine call_one (S := predSpec fundP) rfl _ GaL.rfl ⟨n, rfl, ?_⟩
  cases c1 : fundP n
  · rw [if_neg (by rw [c1]; simp)] at hq
    simp -dsimp only [Vm.G, List.lookup, Nat.reduceAdd, Nat.reduceBEq, Int.reduceBNe, Int.reduceBEq, Nat.reduceLeDiff, q16]
    exact hq h hV (.refl _ _)
  · simp -dsimp only [Vm.G, List.lookup, Nat.reduceAdd, Nat.reduceBEq, Int.reduceBNe, Int.reduceBEq, Nat.reduceLeDiff, q16]
    refine call_one (S := nameSpec) rfl _ GaL.rfl ⟨s, hsl, rfl, ?_⟩
    cases c2 : nameOk s
    · rw [if_neg (by rw [c2]; simp)] at hq
      simp -dsimp only [Vm.G, List.lookup, Nat.reduceAdd, Nat.reduceBEq, Int.reduceBNe, Int.reduceBEq, Nat.reduceLeDiff, q16]
      exact hq h hV (.refl _ _)
    · rw [if_pos ⟨c1, c2⟩] at hq
      have hsl2 := name_len c2
      simp -dsimp only [Vm.G, List.lookup, Nat.reduceAdd, Nat.reduceBEq, Int.reduceBNe, Int.reduceBEq, Nat.reduceLeDiff, q16]
      refine call_one (S := cFundSpec) rfl _ GaL.rfl ⟨V, f, n, rfl, hV, fun q hf => ?_, fun hf => ?_⟩
      · rw [if_pos (by rw [hf]; simp)] at hq
        simp -dsimp only [Vm.G, List.lookup, Nat.reduceAdd, Nat.reduceBEq, Int.reduceBNe, Int.reduceBEq, Nat.reduceLeDiff, q16]
        exact hq h hV (.refl _ _)
      · rw [if_neg (by rw [hf]; simp)] at hq
        simp -dsimp only [Vm.G, List.lookup, Nat.reduceAdd, Nat.reduceBEq, Int.reduceBNe, Int.reduceBEq, Nat.reduceLeDiff, q16]
        refine call_one (S := cFundsSpec) rfl _ GaL.rfl ⟨V, f, rfl, hV, hn, fun l h1 hsc hln hV1 hs1 => ?_⟩
        simp -dsimp only [Vm.G, List.lookup, Nat.reduceAdd, Nat.reduceBEq, Int.reduceBNe, Int.reduceBEq, Nat.reduceLeDiff, q16, List.length_map]
        cases c4 : decide (((allF l).length : Int) ≥ 40)
        · have d4 := of_decide_eq_false c4
          rw [if_neg (by rw [many_iff hsc]; omega)] at hq
          simp -dsimp only [Vm.G, List.lookup, Nat.reduceAdd, Nat.reduceBEq, Int.reduceBNe, Int.reduceBEq, Nat.reduceLeDiff, q16]
          refine bs_intro zr3 (by decide) (by decide) rfl rfl (by simp [solid, AV.cells]) ?_
          simp -dsimp only [Vm.G, List.lookup, Nat.reduceAdd, Nat.reduceBEq, Int.reduceBNe, Int.reduceBEq, Nat.reduceLeDiff, q16]
          refine call_one (S := keySpec) rfl _ GaL.rfl ⟨70, [n], by simp, rfl, ?_⟩
          simp -dsimp only [Vm.G, List.lookup, Nat.reduceAdd, Nat.reduceBEq, Int.reduceBNe, Int.reduceBEq, Nat.reduceLeDiff, q16]
          refine cvX_bytes bt32 Tryz.underlying9 (by rw [size_mk]; unfold maxLen; omega) ?_
          simp -dsimp only [Vm.G, List.lookup, Nat.reduceAdd, Nat.reduceBEq, Int.reduceBNe, Int.reduceBEq, Nat.reduceLeDiff, q16]
          refine call_one (S := vputSpec) rfl _ GaL.rfl ⟨V, f, fundK n, s, rfl, hV1, fun _ h2 g1 g2 => ?_, fun hc => by rw [right_fund c2] at hc; cases hc⟩
          simp -dsimp only [Vm.G, List.lookup, Nat.reduceAdd, Nat.reduceBEq, Int.reduceBNe, Int.reduceBEq, Nat.reduceLeDiff, q16]
          exact hq h2 g1 ((Same.wide hs1).trans g2)
        · have d4 := of_decide_eq_true c4
          rw [if_pos ((many_iff hsc).2 (by omega))] at hq
          simp -dsimp only [Vm.G, List.lookup, Nat.reduceAdd, Nat.reduceBEq, Int.reduceBNe, Int.reduceBEq, Nat.reduceLeDiff, q16]
          exact hq h1 hV1 (Same.wide hs1)
end Go.Proofs.Lx
/- Lists of structs: the same, turned round. -/
set_option linter.unusedSimpArgs false
set_option linter.unusedVariables false
namespace Go.Proofs.Lx
open Go.Vm
attribute [local irreducible] awpArr awpBin awpMake awpAppend awpCvX awpStrOf awpBinX awpSlice awpBS awpStore awpAlloc awpCopy awpIndex awpDraw awpIdxX awpFa awpField awpLookup awpUpdate awpDelete awpClear awpRange awpNext awpEntry awpBuild awpClearS awpIdxL awpTree appB awpIdxO eltA treeA
theorem lnEq (x y : Ln) : ((x.fund == y.fund) && ((x.obj == y.obj) && ((x.node == y.node) && (x.amt == y.amt)))) = true ↔ x = y := by
  obtain ⟨a, b, c, d⟩ := x
  obtain ⟨a', b', c', d'⟩ := y
  simp
def eqSpecLn : Vm.Spec := fun args h Q => ∃ l l' : List Ln, l.length ≤ 9223372036854775807 ∧ args = [.sl 4 (l.map lnAv), .sl 4 (l'.map lnAv)] ∧ ∀ b : Bool, (b = true ↔ l = l') → Q (.v (.bool b)) h
set_option maxHeartbeats 1000000 in
theorem does_eqLn : Does Tryz.prog 25 eqSpecLn := by
  refine does_of_awp good_nil Tryz.func25 rfl (by decide +kernel) (by decide +kernel) ?_
  rintro args h Q ⟨l, l', hl, rfl, hq⟩
  refine ⟨by simp [Tryz.f25], ?_⟩
  rw [awpFunc_some (by rfl)]
  simp -dsimp only [Vm.G, List.lookup, Nat.reduceAdd, Nat.reduceBEq, Int.reduceBNe, Int.reduceBEq, Nat.reduceLeDiff, q25]
  by_cases hlen : l.length = l'.length
  · have c1 : ((l.length : Int) != l'.length) = false := by simp [hlen]
    simp -dsimp only [Vm.G, List.lookup, Nat.reduceAdd, Nat.reduceBEq, Int.reduceBNe, Int.reduceBEq, Nat.reduceLeDiff, q25, c1]
    refine awp_loop (fun m s h' => ∃ i : Nat, i + m = l.length ∧ h' = h ∧ (∀ j (hj : j < l.length), j < i → l[j] = l'[j]'(by omega)) ∧ s = mk [(0, .sl 4 (l.map lnAv)), (1, .sl 4 (l'.map lnAv)), (12, .v (.int .i64 l.length)), (13, .v (.int .i64 i))])
      l.length _ (le_mk _ ?_) ⟨0, by omega, rfl, fun j _ hj => by omega, rfl⟩ ?_
    · simp only [List.forall_mem_cons, List.not_mem_nil, false_imp_iff, implies_true, and_true]
      try simp -dsimp only [Vm.G, List.lookup, Nat.reduceAdd, Nat.reduceBEq, Int.reduceBNe, Int.reduceBEq, Nat.reduceLeDiff, q25]
      repeat' first | exact Fg.refl _ | exact Fg.nil _ _ _ (by decide) | refine And.intro ?_ ?_
    · rintro m s h' ⟨i, hi, rfl, hb, rfl⟩
      simp -dsimp only [Vm.G, List.lookup, Nat.reduceAdd, Nat.reduceBEq, Int.reduceBNe, Int.reduceBEq, Nat.reduceLeDiff, q25]
      refine cond_intro (fun hcc => ?_) (fun hcc => ?_)
      · have hlt : i < l.length := by have := of_decide_eq_true hcc; omega
        have hlt' : i < l'.length := by omega
        obtain ⟨x, hx⟩ : ∃ x, l[i] = x := ⟨_, rfl⟩
        obtain ⟨y, hy⟩ : ∃ y, l'[i] = y := ⟨_, rfl⟩
        have hw : IntKind.i64.wrap ((i : Int) + 1) = ((i + 1 : Nat) : Int) := by rw [wrap_i64 (by omega) (by omega)]; simp
        simp -dsimp only [Vm.G, List.lookup, Nat.reduceAdd, Nat.reduceBEq, Int.reduceBNe, Int.reduceBEq, Nat.reduceLeDiff, q25]
        refine draw_cont [] (.take 0 (.take 1 (.take 2 (.take 3 (.take 4 (.take 5 (.take 6 (.take 7 (.take 8 (.done)))))))))) (fun s hx => hx = h' ∧ (∃ b : Bool, (b = true ↔ x = y) ∧ s 24 = .v (.bool (!b))) ∧ s 0 = .sl 4 (l.map lnAv) ∧ s 1 = .sl 4 (l'.map lnAv) ∧ s 12 = .v (.int .i64 l.length) ∧ s 13 = .v (.int .i64 i)) (by kernel_rfl) (by kernel_rfl) (by kernel_rfl) (by decide) ?_ ?_
        · simp -dsimp only [Vm.G, List.lookup, Nat.reduceAdd, Nat.reduceBEq, Int.reduceBNe, Int.reduceBEq, Nat.reduceLeDiff, q25]
          refine idx_map lnAv l i hlt ?_
          simp only [hx, lnAv, lnCells]
          simp -dsimp only [Vm.G, List.lookup, Nat.reduceAdd, Nat.reduceBEq, Int.reduceBNe, Int.reduceBEq, Nat.reduceLeDiff, q25, AV.cells]
          refine idx_map lnAv l' i hlt' ?_
          simp only [hy, lnAv, lnCells]
          simp -dsimp only [Vm.G, List.lookup, Nat.reduceAdd, Nat.reduceBEq, Int.reduceBNe, Int.reduceBEq, Nat.reduceLeDiff, q25, AV.cells]
          refine eq_agg fd45 rfl ?_
          simp -dsimp only [Vm.G, List.lookup, Nat.reduceAdd, Nat.reduceBEq, Int.reduceBNe, Int.reduceBEq, Nat.reduceLeDiff, q25]
          refine ⟨⟨_, lnEq x y, rfl⟩, ?_⟩
          repeat' first | rfl | exact True.intro | refine And.intro ?_ ?_
        · rintro s hx2 ⟨rfl, ⟨b, hbe, e24⟩, e0, e1, e12, e13⟩
          cases b
          · have hne : ¬ l = l' := fun e => by
              have : x = y := by subst e; rw [← hx, ← hy]
              have := hbe.2 this
              cases this
            simp -dsimp only [Vm.G, List.lookup, Nat.reduceAdd, Nat.reduceBEq, Int.reduceBNe, Int.reduceBEq, Nat.reduceLeDiff, q25, e24, e0, e1, e12, e13]
            exact hq false ⟨fun h => (by cases h), fun h => (hne h).elim⟩
          · have he := hbe.1 rfl
            simp -dsimp only [Vm.G, List.lookup, Nat.reduceAdd, Nat.reduceBEq, Int.reduceBNe, Int.reduceBEq, Nat.reduceLeDiff, q25, e24, e0, e1, e12, e13]
            refine kept_intro ⟨l.length - (i + 1), by omega, _, le_mk [(0, .sl 4 (l.map lnAv)), (1, .sl 4 (l'.map lnAv)), (12, .v (.int .i64 l.length)), (13, .v (.int .i64 (i + 1 : Nat)))] ?_, i + 1, by omega, rfl, fun j hj hj2 => ?_, rfl⟩
            · simp only [List.forall_mem_cons, List.not_mem_nil, false_imp_iff, implies_true, and_true, hw, e24, e0, e1, e12, e13]
              try simp -dsimp only [Vm.G, List.lookup, Nat.reduceAdd, Nat.reduceBEq, Int.reduceBNe, Int.reduceBEq, Nat.reduceLeDiff, q25, hw, e24, e0, e1, e12, e13]
              repeat' first | exact Fg.refl _ | exact Fg.nil _ _ _ (by decide) | refine And.intro ?_ ?_
            · by_cases hji : j = i
              · subst hji; rw [hx, hy]; exact he
              · exact hb j hj (by omega)
      · have hge : ¬ i < l.length := by have := of_decide_eq_false hcc; omega
        have he : l = l' := List.ext_getElem hlen fun j h1 h2 => hb j h1 (by omega)
        simp -dsimp only [Vm.G, List.lookup, Nat.reduceAdd, Nat.reduceBEq, Int.reduceBNe, Int.reduceBEq, Nat.reduceLeDiff, q25]
        exact hq true ⟨fun _ => he, fun _ => rfl⟩
  · have c1 : ((l.length : Int) != l'.length) = true := by simp; omega
    simp -dsimp only [Vm.G, List.lookup, Nat.reduceAdd, Nat.reduceBEq, Int.reduceBNe, Int.reduceBEq, Nat.reduceLeDiff, q25, c1]
    exact hq false ⟨fun h => (by cases h), fun h => (hlen (by rw [h])).elim⟩
end Go.Proofs.Lx
/- The sums of lines by fund: lines.Funds, lines.Equal. -/
set_option linter.unusedSimpArgs false
set_option linter.unusedVariables false
namespace Go.Proofs.Lx
open Go.Vm
attribute [local irreducible] awpArr awpBin awpMake awpAppend awpCvX awpStrOf awpBinX awpSlice awpBS awpStore awpAlloc awpCopy awpIndex awpDraw awpIdxX awpFa awpField awpLookup awpUpdate awpDelete awpClear awpRange awpNext awpEntry awpBuild awpClearS awpIdxL awpTree appB awpIdxO eltA treeA
def intK (n : Int) : Value := .int .i64 n
def nOf (e : Ent) : Int := match e.key with
  | .int _ n => n
  | _ => 0
def mOf (e : Ent) : Int := match e.val with
  | .v (.int _ n) => n
  | _ => 0
theorem nOf_eq {e : Ent} {k : Int} (h : e.key = intK k) : nOf e = k := by unfold nOf; rw [h]; rfl
def BornI (es : List Ent) (clock : Nat) : Prop := ((es.map (·.born)).Nodup ∧ (es.map nOf).Nodup) ∧ ∀ e ∈ es, e.born < clock
theorem keyEq_int (a b : Int) : keyEq (intK a) (intK b) = (a == b) := by
  have h1 := keyEq_iff (d := .int .i64) (x := intK a) (y := intK b) rfl rfl
  cases h : keyEq (intK a) (intK b)
  · have : ¬ a = b := fun e => by rw [h1.2 (by rw [e])] at h; cases h
    simpa using this
  · have := h1.1 h
    simp only [intK, Value.int.injEq, true_and] at this
    simp [this]
theorem keys_int {es : List Ent} (h : ∀ e ∈ es, ∃ k, e.key = intK k) : ∀ e ∈ es, MapKept.IsKey (.int .i64) e.key := fun e he => by
  obtain ⟨k, hk⟩ := h e he
  rw [hk]; rfl
theorem mget_mputI {v : AV} {c : Nat} (k k' : Int) : ∀ {es : List Ent}, (∀ e ∈ es, ∃ k, e.key = intK k) →
    (mget (intK k') (mput (intK k) v c es)).map Ent.val = if k' = k then some v else (mget (intK k') es).map Ent.val
  | [], _ => by
    simp only [mput, mget, List.find?_cons, List.find?_nil, keyEq_int]
    by_cases h : k' = k
    · simp [h]
    · have h4 : (k' == k) = false := by simpa using h
      simp [h, h4]
  | e :: es, hk => by
    obtain ⟨q, hq⟩ := hk e (List.mem_cons_self ..)
    simp only [mput, hq, keyEq_int]
    by_cases h1 : k = q
    · subst h1
      simp only [beq_self_eq_true, if_true, mget, List.find?_cons, keyEq_int, hq]
      by_cases h : k' = k
      · simp [h]
      · have h4 : (k' == k) = false := by simpa using h
        simp [h, h4]
    · have h2 : (k == q) = false := by simpa using h1
      simp only [h2, Bool.false_eq_true, if_false, mget, List.find?_cons, hq, keyEq_int]
      by_cases h3 : k' = q
      · have : ¬ k' = k := fun e => h1 (e.symm.trans h3)
        simp [h3, Ne.symm h1]
      · have h4 : (k' == q) = false := by simpa using h3
        simp only [h4]
        exact mget_mputI k k' fun e he => hk e (List.mem_cons_of_mem _ he)
theorem mput_keysI {q : Int} {v : AV} {c : Nat} : ∀ {es : List Ent}, (∀ e ∈ es, ∃ k, e.key = intK k) → (mput (intK q) v c es).map nOf = es.map nOf ∨ (q ∉ es.map nOf ∧ (mput (intK q) v c es).map nOf = es.map nOf ++ [q])
  | [], _ => .inr ⟨by simp, by simp [mput, nOf, intK]⟩
  | x :: es, hk => by
    obtain ⟨kx, hx⟩ := hk x (List.mem_cons_self ..)
    have hkx : nOf x = kx := nOf_eq hx
    simp only [mput]
    rw [hx, keyEq_int]
    by_cases hq : q = kx
    · left
      subst hq
      have e1 : nOf ⟨intK q, v, x.born⟩ = nOf x := by rw [hkx]; exact nOf_eq rfl
      simp [e1]
    · have hq' : (q == kx) = false := by simpa using hq
      rw [hq']
      simp only [Bool.false_eq_true, if_false, List.map_cons]
      rcases mput_keysI (q := q) (v := v) (c := c) (es := es) (fun e he => hk e (List.mem_cons_of_mem _ he)) with h | ⟨h1, h2⟩
      · left; rw [h]
      · right
        refine ⟨?_, by rw [h2]; rfl⟩
        simp only [List.mem_cons, not_or]
        exact ⟨by rw [hkx]; exact hq, h1⟩
theorem BornI.put {q : Int} {v : AV} {c : Nat} {es : List Ent} (h : BornI es c) (hk : ∀ e ∈ es, ∃ k, e.key = intK k) : BornI (mput (intK q) v c es) (mclk (intK q) es c) := by
  have hkeys : ((mput (intK q) v c es).map nOf).Nodup := by
    rcases mput_keysI (q := q) (v := v) (c := c) hk with h' | ⟨h1, h2⟩
    · rw [h']; exact h.1.2
    · rw [h2, List.nodup_append]
      exact ⟨h.1.2, by simp, fun a ha b hb => by simp only [List.mem_singleton] at hb; subst hb; intro e; exact h1 (e ▸ ha)⟩
  generalize intK q = k at hkeys ⊢
  have hb : ∀ b ∈ es.map (·.born), b < c := fun b hb => by obtain ⟨e, he, rfl⟩ := List.mem_map.1 hb; exact h.2 e he
  have hc : c ≤ mclk k es c := by unfold mclk; split <;> omega
  rcases mput_born (k := k) (v := v) (c := c) (es := es) with h1 | ⟨h1, h2⟩
  · exact ⟨⟨by rw [h1]; exact h.1.1, hkeys⟩, fun e he => Nat.lt_of_lt_of_le (hb _ (h1 ▸ List.mem_map_of_mem he)) hc⟩
  · have h3 : mclk k es c = c + 1 := by simp [mclk, h1]
    refine ⟨⟨?_, hkeys⟩, fun e he => ?_⟩
    · rw [h2, List.nodup_append]
      refine ⟨h.1.1, by simp, fun a ha b hb' => ?_⟩
      simp only [List.mem_singleton] at hb'
      have := hb a ha
      omega
    · have : e.born ∈ es.map (·.born) ++ [c] := h2 ▸ List.mem_map_of_mem he
      rw [h3]
      rcases List.mem_append.1 this with h4 | h4
      · have := hb _ h4; omega
      · simp only [List.mem_singleton] at h4; omega
theorem mget_iffI {es : List Ent} (hk : ∀ e ∈ es, ∃ k, e.key = intK k) (hn : (es.map nOf).Nodup) {k : Int} {e : Ent} : mget (intK k) es = some e ↔ e ∈ es ∧ nOf e = k := by
  constructor
  · intro h
    have hm := mget_mem h
    obtain ⟨q, hq⟩ := hk e hm
    have := List.find?_some (p := fun (e : Ent) => keyEq (intK k) e.key) h
    rw [hq, keyEq_int] at this
    exact ⟨hm, by rw [nOf_eq hq]; exact (by simpa using this : k = q).symm⟩
  · rintro ⟨hm, hke⟩
    cases hf : mget (intK k) es with
    | none =>
      have := List.find?_eq_none.1 hf e hm
      obtain ⟨q, hq⟩ := hk e hm
      rw [hq, keyEq_int, ← hke, nOf_eq hq] at this
      simp at this
    | some e' =>
      have hm' := mget_mem hf
      obtain ⟨q, hq⟩ := hk e' hm'
      have := List.find?_some (p := fun (e : Ent) => keyEq (intK k) e.key) hf
      rw [hq, keyEq_int] at this
      have hkq : k = q := by simpa using this
      rw [inj_of_map hn hm hm' (by rw [hke, nOf_eq hq]; exact hkq)]
def sumF (l : List Ln) (n : Int) : Int := w64s ((l.filter (·.fund == n)).map (·.amt))
theorem sumF_step (l : List Ln) (x : Ln) (n : Int) : sumF (l ++ [x]) n = if n = x.fund then w64 (sumF l n + x.amt) else sumF l n := by
  unfold sumF
  rw [List.filter_append, List.map_append]
  by_cases h : n = x.fund
  · subst h
    simp [List.filter_cons, w64s, List.foldl_append]
  · have : (x.fund == n) = false := by simpa using fun e => h e.symm
    simp [List.filter_cons, this, h]
theorem sumF_none {l : List Ln} {n : Int} (h : ¬ ∃ y ∈ l, y.fund = n) : sumF l n = 0 := by
  have : l.filter (·.fund == n) = [] := List.filter_eq_nil_iff.2 fun y hy => by simpa using fun e => h ⟨y, hy, e⟩
  unfold sumF
  rw [this]; rfl
/-- The sums by fund. -/
def IsFunds (l r : List Ln) : Prop := r.Pairwise (fun a b => a.fund < b.fund) ∧ ∀ x, x ∈ r ↔ ((∃ y ∈ l, y.fund = x.fund) ∧ x = ⟨x.fund, 0, 0, sumF l x.fund⟩)
theorem funds_same {l r r' : List Ln} (h : IsFunds l r) (h' : IsFunds l r') : r = r' := by
  have hp : r.Perm r' := (List.perm_ext_iff_of_nodup (h.1.imp fun {a b} hab e => by subst e; omega) (h'.1.imp fun {a b} hab e => by subst e; omega)).2 fun x => (h.2 x).trans (h'.2 x).symm
  exact hp.eq_of_pairwise (fun a b _ _ h1 h2 => by omega) h.1 h'.1
theorem nodup_le {α : Type} [DecidableEq α] : ∀ {a b : List α}, a.Nodup → (∀ x ∈ a, x ∈ b) → a.length ≤ b.length
  | [], _, _, _ => by simp
  | x :: a, b, hn, h => by
    have hn := List.nodup_cons.1 hn
    have := nodup_le (b := b.erase x) hn.2 fun y hy => (List.mem_erase_of_ne fun e => hn.1 (by rw [← e]; exact hy)).2 (h y (List.mem_cons_of_mem _ hy))
    rw [List.length_erase_of_mem (h x (List.mem_cons_self ..))] at this
    have hb : 0 < b.length := List.length_pos_of_mem (h x (List.mem_cons_self ..))
    simp only [List.length_cons]; omega
theorem IsFunds.len {l r : List Ln} (h : IsFunds l r) : r.length ≤ l.length := by
  have := nodup_le (a := r.map Ln.fund) (b := l.map Ln.fund) (List.pairwise_map.2 (h.1.imp fun {a b} hab => by omega)) fun x hx => by
    obtain ⟨y, hy, rfl⟩ := List.mem_map.1 hx
    obtain ⟨z, hz, e⟩ := ((h.2 y).1 hy).1
    rw [← e]; exact List.mem_map_of_mem hz
  simpa using this
/-- The entries of sums. -/
def SumE (l : List Ln) (es : List Ent) (clk : Nat) : Prop := (∀ e ∈ es, ∃ n, e.key = intK n) ∧ BornI es clk ∧ es.length ≤ l.length ∧
  ∀ n, ((∃ y ∈ l, y.fund = n) → (mget (intK n) es).map Ent.val = some (.v (.int .i64 (sumF l n)))) ∧ ((¬ ∃ y ∈ l, y.fund = n) → mget (intK n) es = none)
theorem SumE.step {l : List Ln} {es : List Ent} {clk : Nat} (h : SumE l es clk) (x : Ln) : SumE (l ++ [x]) (mput (intK x.fund) (.v (.int .i64 (w64 (sumF l x.fund + x.amt)))) clk es) (mclk (intK x.fund) es clk) := by
  obtain ⟨h1, h2, h3, h4⟩ := h
  refine ⟨fun e he => ?_, h2.put h1, ?_, fun n => ?_⟩
  · rcases mput_mem he with h | ⟨h, -⟩
    · exact h1 e h
    · exact ⟨_, h⟩
  · have := mput_length (k := intK x.fund) (v := .v (.int .i64 (w64 (sumF l x.fund + x.amt)))) (c := clk) es
    rw [List.length_append]; simp only [List.length_cons, List.length_nil]; omega
  · have hg := mget_mputI (v := .v (.int .i64 (w64 (sumF l x.fund + x.amt)))) (c := clk) x.fund n h1
    rw [sumF_step]
    by_cases d : n = x.fund
    · subst d
      rw [if_pos rfl] at hg
      rw [if_pos rfl]
      exact ⟨fun _ => hg, fun hn => (hn ⟨x, by simp, rfl⟩).elim⟩
    · rw [if_neg d] at hg
      rw [if_neg d]
      have hiff : (∃ y ∈ l ++ [x], y.fund = n) ↔ ∃ y ∈ l, y.fund = n := ⟨fun ⟨y, hy, e⟩ => by
        rcases List.mem_append.1 hy with hy | hy
        · exact ⟨y, hy, e⟩
        · rw [List.mem_singleton] at hy; subst hy; exact (d e.symm).elim, fun ⟨y, hy, e⟩ => ⟨y, by simp [hy], e⟩⟩
      rw [hiff]
      refine ⟨fun hn => by rw [hg]; exact (h4 n).1 hn, fun hn => ?_⟩
      have := (h4 n).2 hn
      rw [this] at hg
      cases hm : mget (intK n) (mput (intK x.fund) (.v (.int .i64 (w64 (sumF l x.fund + x.amt)))) clk es) with
      | none => rfl
      | some e => rw [hm] at hg; cases hg
def lnE (e : Ent) : Ln := ⟨nOf e, 0, 0, mOf e⟩
theorem SumE.val {l : List Ln} {es : List Ent} {clk : Nat} (h : SumE l es clk) {e : Ent} (he : e ∈ es) : e.key = intK (nOf e) ∧ e.val = .v (.int .i64 (sumF l (nOf e))) ∧ ∃ y ∈ l, y.fund = nOf e := by
  obtain ⟨n, hn⟩ := h.1 e he
  have hnn := nOf_eq hn
  have hg := (mget_iffI h.1 h.2.1.1.2 (k := nOf e) (e := e)).2 ⟨he, rfl⟩
  have hex : ∃ y ∈ l, y.fund = nOf e := Classical.byContradiction fun hc => by
    rw [(h.2.2.2 _).2 hc] at hg; cases hg
  have := (h.2.2.2 _).1 hex
  rw [hg] at this
  exact ⟨by rw [hnn]; exact hn, by simpa using this, hex⟩
theorem SumE.funds {l : List Ln} {es done : List Ent} {clk : Nat} {r : List Ln} (h : SumE l es clk) (hd : done.Perm es) (hp : r.Perm (done.map lnE)) (hs : r.Pairwise (fun a b => cmpI a.fund b.fund < 0)) : IsFunds l r := by
  refine ⟨hs.imp fun {a b} hab => (cmpI_lt _ _).1 hab, fun x => ?_⟩
  rw [hp.mem_iff, List.mem_map]
  constructor
  · rintro ⟨e, he, rfl⟩
    obtain ⟨h1, h2, h3⟩ := h.val (hd.mem_iff.1 he)
    refine ⟨h3, ?_⟩
    have hm : mOf e = sumF l (nOf e) := by unfold mOf; rw [h2]
    simp only [lnE, hm]
  · rintro ⟨hex, hx⟩
    have := (h.2.2.2 _).1 hex
    cases hm : mget (intK x.fund) es with
    | none => rw [hm] at this; cases this
    | some e =>
      obtain ⟨he, hn⟩ := (mget_iffI h.1 h.2.1.1.2).1 hm
      refine ⟨e, hd.mem_iff.2 he, ?_⟩
      obtain ⟨h1, h2, h3⟩ := h.val he
      have hmm : mOf e = sumF l (nOf e) := by unfold mOf; rw [h2]
      rw [hx]
      simp only [lnE, hmm, hn]
theorem SumE.nodup {l : List Ln} {es done : List Ent} {clk : Nat} (h : SumE l es clk) (hd : done.Perm es) : ((done.map lnE).map Ln.fund).Nodup := by
  rw [List.map_map]
  have : (done.map nOf).Nodup := ((hd.map nOf).nodup_iff).2 h.2.1.1.2
  exact this
theorem does_sortLine : Does Tryz.prog 100 (orS sortLnSpec sortLnNilSpec) := does_or does_sortLn does_sortLnNil
def fundsSpec : Vm.Spec := fun args h Q => ∃ l : List Ln, l.length ≤ 1073741824 ∧ args = [.sl 4 (l.map lnAv)] ∧ ∀ r h', IsFunds l r → Same h h' [] → Q (.own true 45 4 (r.map lnAv)) h'
set_option maxRecDepth 20000 in
set_option maxHeartbeats 1000000 in
theorem does_funds : Does Tryz.prog 26 fundsSpec := by
  refine does_of_awp (good_cons does_sortLine good_nil) Tryz.func26 rfl (by decide +kernel) (by decide +kernel) ?_
  rintro args h Q ⟨l, hl, rfl, hq⟩
  refine ⟨by simp [Tryz.f26], ?_⟩
  rw [awpFunc_some (by rfl)]
  simp -dsimp only [Vm.G, List.lookup, Nat.reduceAdd, Nat.reduceBEq, Int.reduceBNe, Int.reduceBEq, Nat.reduceLeDiff, q26]
  refine awp_loop (fun m s h' => ∃ (i : Nat) (es : List Ent) (clk : Nat), i + m = l.length ∧ SumE (l.take i) es clk ∧ h' = h ++ [.map es clk] ∧ s = mk [(3, .mp h.length), (10, .sl 4 (l.map lnAv)), (11, .v (.int .i64 l.length)), (12, .v (.int .i64 (i : Nat)))])
    l.length _ (le_mk _ ?_) ⟨0, [], 0, by omega, ⟨by simp, ⟨⟨.nil, .nil⟩, by simp⟩, by simp, fun n => ⟨fun ⟨y, hy, _⟩ => by simp at hy, fun _ => rfl⟩⟩, rfl, rfl⟩ ?_
  · simp only [List.forall_mem_cons, List.not_mem_nil, false_imp_iff, implies_true, and_true]
    try simp -dsimp only [Vm.G, List.lookup, Nat.reduceAdd, Nat.reduceBEq, Int.reduceBNe, Int.reduceBEq, Nat.reduceLeDiff, q26]
    repeat' first | exact Fg.refl _ | exact Fg.nil _ _ _ (by decide) | refine And.intro ?_ ?_
  · rintro m s h' ⟨i, es, clk, hi, hE, rfl, rfl⟩
    simp -dsimp only [Vm.G, List.lookup, Nat.reduceAdd, Nat.reduceBEq, Int.reduceBNe, Int.reduceBEq, Nat.reduceLeDiff, q26]
    refine cond_intro (fun hcc => ?_) (fun hcc => ?_)
    · have hlt : i < l.length := by have := of_decide_eq_true hcc; omega
      have hw : IntKind.i64.wrap ((i : Int) + 1) = ((i + 1 : Nat) : Int) := by rw [wrap_i64 (by omega) (by omega)]; simp
      have hst := hE.step l[i]
      rw [← List.take_succ_eq_append_getElem hlt] at hst
      obtain ⟨x, hx⟩ : ∃ x, l[i] = x := ⟨_, rfl⟩
      have hel := hE.2.2.2 x.fund
      rw [hx] at hst
      simp -dsimp only [Vm.G, List.lookup, Nat.reduceAdd, Nat.reduceBEq, Int.reduceBNe, Int.reduceBEq, Nat.reduceLeDiff, q26]
      refine idx_map lnAv l i hlt ?_
      simp only [hx, lnAv, lnCells]
      simp -dsimp only [Vm.G, List.lookup, Nat.reduceAdd, Nat.reduceBEq, Int.reduceBNe, Int.reduceBEq, Nat.reduceLeDiff, q26, AV.cells]
      have fin : ∀ a : Int, a = sumF (l.take i) x.fund → SumE (l.take (i + 1)) (mput (intK x.fund) (.v (.int .i64 (IntKind.i64.wrap (a + x.amt)))) clk es) (mclk (intK x.fund) es clk) := fun a ha => by rw [ha]; exact hst
      refine lookup_intro mt147 z3 es clk (heap_last _ _) rfl (keys_int hE.1) (fun e he => ?_) (fun he => ?_)
      · have he : mget (intK x.fund) es = some e := he
        have hex : ∃ y ∈ l.take i, y.fund = x.fund := Classical.byContradiction fun hc => by rw [hel.2 hc] at he; cases he
        have hv := hel.1 hex
        rw [he] at hv
        have hv : e.val = .v (.int .i64 (sumF (l.take i) x.fund)) := by simpa using hv
        have f2 := fin _ rfl
        simp -dsimp only [Vm.G, List.lookup, Nat.reduceAdd, Nat.reduceBEq, Int.reduceBNe, Int.reduceBEq, Nat.reduceLeDiff, q26, hv, lookRes, cst, Bool.false_eq_true, if_false]
        refine update_intro mt147 es clk (heap_last _ _) (kv := .int .i64 x.fund) (by rfl) (keys_int hE.1) ?_
        simp -dsimp only [Vm.G, List.lookup, Nat.reduceAdd, Nat.reduceBEq, Int.reduceBNe, Int.reduceBEq, Nat.reduceLeDiff, q26, heap_setLast]
        refine kept_intro ⟨l.length - (i + 1), by omega, _, le_mk [(3, .mp h.length), (10, .sl 4 (l.map lnAv)), (11, .v (.int .i64 l.length)), (12, .v (.int .i64 (i + 1 : Nat)))] ?_, i + 1, _, _, by omega, f2, rfl, rfl⟩
        simp only [List.forall_mem_cons, List.not_mem_nil, false_imp_iff, implies_true, and_true, hw]
        try simp -dsimp only [Vm.G, List.lookup, Nat.reduceAdd, Nat.reduceBEq, Int.reduceBNe, Int.reduceBEq, Nat.reduceLeDiff, q26, hw]
        repeat' first | exact Fg.refl _ | exact Fg.nil _ _ _ (by decide) | refine And.intro ?_ ?_
      · have hne : ¬ ∃ y ∈ l.take i, y.fund = x.fund := fun hc => by have := hel.1 hc; rw [show mget (intK x.fund) es = none from he] at this; cases this
        have f2 := fin 0 (sumF_none hne).symm
        have k0 : ∀ v b, lookRes false v b = v := fun _ _ => rfl
        simp -dsimp only [Vm.G, List.lookup, Nat.reduceAdd, Nat.reduceBEq, Int.reduceBNe, Int.reduceBEq, Nat.reduceLeDiff, q26, k0]
        refine update_intro mt147 es clk (heap_last _ _) (kv := .int .i64 x.fund) (by rfl) (keys_int hE.1) ?_
        simp -dsimp only [Vm.G, List.lookup, Nat.reduceAdd, Nat.reduceBEq, Int.reduceBNe, Int.reduceBEq, Nat.reduceLeDiff, q26, heap_setLast]
        refine kept_intro ⟨l.length - (i + 1), by omega, _, le_mk [(3, .mp h.length), (10, .sl 4 (l.map lnAv)), (11, .v (.int .i64 l.length)), (12, .v (.int .i64 (i + 1 : Nat)))] ?_, i + 1, _, _, by omega, f2, rfl, rfl⟩
        simp only [List.forall_mem_cons, List.not_mem_nil, false_imp_iff, implies_true, and_true, hw]
        try simp -dsimp only [Vm.G, List.lookup, Nat.reduceAdd, Nat.reduceBEq, Int.reduceBNe, Int.reduceBEq, Nat.reduceLeDiff, q26, hw]
        repeat' first | exact Fg.refl _ | exact Fg.nil _ _ _ (by decide) | refine And.intro ?_ ?_
    · have hge : ¬ i < l.length := by have := of_decide_eq_false hcc; omega
      rw [List.take_of_length_le (by omega)] at hE
      have g0 := heap_last h (AObj.map es clk)
      have hsame := Same.more h [AObj.map es clk]
      generalize h ++ [AObj.map es clk] = hh at g0 hsame ⊢
      simp -dsimp only [Vm.G, List.lookup, Nat.reduceAdd, Nat.reduceBEq, Int.reduceBNe, Int.reduceBEq, Nat.reduceLeDiff, q26]
      refine range_intro mt147 es clk g0 ?_
      simp -dsimp only [Vm.G, List.lookup, Nat.reduceAdd, Nat.reduceBEq, Int.reduceBNe, Int.reduceBEq, Nat.reduceLeDiff, q26]
      refine awp_loop (fun m s h' => ∃ done : List Ent, m = (leftE es (done.map (·.born))).length ∧ done.length + m ≤ es.length ∧ h' = hh ∧ (∀ d ∈ done, d ∈ es) ∧ (done.map (·.born)).Nodup ∧ s = mk [(6, .own true 45 4 (((done).map lnE).map lnAv)), (25, .iter h.length clk ((done).map (·.born)) clk)])
        es.length _ (le_mk _ ?_) ⟨[], (congrArg List.length (List.filter_eq_self.2 fun _ _ => rfl)).symm, by simp, rfl, by simp, by simp, rfl⟩ ?_
      · simp only [List.forall_mem_cons, List.not_mem_nil, false_imp_iff, implies_true, and_true]
        try simp -dsimp only [Vm.G, List.lookup, Nat.reduceAdd, Nat.reduceBEq, Int.reduceBNe, Int.reduceBEq, Nat.reduceLeDiff, q26]
        repeat' first | exact Fg.refl _ | exact Fg.nil _ _ _ (by decide) | refine And.intro ?_ ?_
      · clear hi hcc hge
        rintro m s h' ⟨done, rfl, hlen, rfl, hd, hdn, rfl⟩
        simp -dsimp only [Vm.G, List.lookup, Nat.reduceAdd, Nat.reduceBEq, Int.reduceBNe, Int.reduceBEq, Nat.reduceLeDiff, q26]
        refine next_intro es clk g0 (fun e he => hE.2.1.2 e he) (Nat.le_refl _) (fun hlf => ?_) (fun e he => ?_)
        · have hD : done.Perm es := seen_all hE.2.1.1.1 hd hdn hlf
          have hnd := hE.nodup hD
          have hel := hE.2.2.1
          have hdl := hD.length_eq
          simp -dsimp only [Vm.G, List.lookup, Nat.reduceAdd, Nat.reduceBEq, Int.reduceBNe, Int.reduceBEq, Nat.reduceLeDiff, q26]
          refine call_in _ _ _ ?_
          simp -dsimp only [Vm.G, List.lookup, Nat.reduceAdd, Nat.reduceBEq, Int.reduceBNe, Int.reduceBEq, Nat.reduceLeDiff, q26, callI_eq, ownSl_own, ownSl_alias]
          refine callI_tup (S := orS sortLnSpec sortLnNilSpec) (fun xs' => ∃ l' : List Ln, xs' = l'.map lnAv ∧ l'.Perm (done.map lnE) ∧ l'.Pairwise (fun a b => cmpI a.fund b.fund < 0)) rfl
            (fun xs' hx => ?_) (fun hx => ⟨?_, fun Q' hq' => .inr ⟨_, rfl, hq'⟩⟩) (fun c hc Q' hq' => .inl ⟨done.map lnE, _, c, 45, by rw [List.length_map], rfl, hnd, by rw [List.length_map]; omega, by rw [List.length_map] at hc; exact hc, fun l' hp hs => hq' _ _ ⟨l', rfl, hp, hs⟩ ?_⟩) (fun xs' hx => ?_)
          · obtain ⟨l', rfl, hp, hs⟩ := hx
            exact ⟨fun x hx => (hp.map lnAv).mem_iff.1 hx, by rw [List.length_map, List.length_map, hp.length_eq]⟩
          · have hnil : done.map lnE = [] := List.map_eq_nil_iff.1 hx
            exact ⟨[], rfl, by rw [hnil], .nil⟩
          · rw [List.take_of_length_le]
            rw [flat_length (sz := 4) (fun x hx => by obtain ⟨p, -, rfl⟩ := List.mem_map.1 hx; rfl)]
            exact Nat.le_refl _
          · obtain ⟨l', rfl, hp, hs⟩ := hx
            simp -dsimp only [Vm.G, List.lookup, Nat.reduceAdd, Nat.reduceBEq, Int.reduceBNe, Int.reduceBEq, Nat.reduceLeDiff, q26]
            exact hq l' _ (hE.funds hD hp hs) hsame
        · obtain ⟨hem, heb⟩ := left_mem he
          obtain ⟨hk, hv, hex⟩ := hE.val hem
          obtain ⟨hd2, hdn2⟩ := done_more he hd hdn
          have hless := left_less he
          have emap : (done ++ [e]).map (·.born) = done.map (·.born) ++ [e.born] := by simp
          have hln : lnE e = ⟨nOf e, 0, 0, sumF l (nOf e)⟩ := by unfold lnE mOf; rw [hv]
          have hlnn := hE.2.2.1
          simp -dsimp only [Vm.G, List.lookup, Nat.reduceAdd, Nat.reduceBEq, Int.reduceBNe, Int.reduceBEq, Nat.reduceLeDiff, q26]
          refine entry_intro es clk e g0 (find_born hE.2.1.1.1 hem) ?_
          simp only [hk, hv, intK]
          simp -dsimp only [Vm.G, List.lookup, Nat.reduceAdd, Nat.reduceBEq, Int.reduceBNe, Int.reduceBEq, Nat.reduceLeDiff, q26]
          refine bs_intro zr45 (by decide) (by decide) rfl rfl (by simp [solid, AV.cells]) ?_
          simp -dsimp only [Vm.G, List.lookup, Nat.reduceAdd, Nat.reduceBEq, Int.reduceBNe, Int.reduceBEq, Nat.reduceLeDiff, q26]
          refine app_sl Tryz.underlying36 (by simp [AV.cells]) (by simp only [List.length_map, List.length_cons, List.length_nil]; omega) ?_
          simp -dsimp only [Vm.G, List.lookup, Nat.reduceAdd, Nat.reduceBEq, Int.reduceBNe, Int.reduceBEq, Nat.reduceLeDiff, q26]
          refine kept_intro ⟨_, hless, _, le_mk [(6, .own true 45 4 (((done ++ [e]).map lnE).map lnAv)), (25, .iter h.length clk ((done ++ [e]).map (·.born)) clk)] ?_, done ++ [e], by rw [emap], by rw [List.length_append]; simp only [List.length_cons, List.length_nil]; omega, rfl, hd2, hdn2, rfl⟩
          simp only [List.forall_mem_cons, List.not_mem_nil, false_imp_iff, implies_true, and_true, List.map_append, List.map_cons, List.map_nil, hln, lnAv, lnCells]
          try simp -dsimp only [Vm.G, List.lookup, Nat.reduceAdd, Nat.reduceBEq, Int.reduceBNe, Int.reduceBEq, Nat.reduceLeDiff, q26, List.map_append, List.map_cons, List.map_nil, hln, lnAv, lnCells]
          repeat' first | exact Fg.refl _ | exact Fg.nil _ _ _ (by decide) | refine And.intro ?_ ?_
def lineNz (x : Ln) : Bool := x.amt != 0
theorem does_lineNz : Does Tryz.prog 103 (askLn lineNz) := by
  refine does_of_awp good_nil Tryz.func103 rfl (by decide +kernel) (by decide +kernel) ?_
  rintro args h Q ⟨x, rfl, hq⟩
  refine ⟨by simp [Tryz.f103], ?_⟩
  rw [awpFunc_some (by rfl)]
  simp only [lnAv, lnCells]
  simp -dsimp only [Vm.G, List.lookup, Nat.reduceAdd, Nat.reduceBEq, Int.reduceBNe, Int.reduceBEq, Nat.reduceLeDiff, q103]
  exact hq
def nzT : Tab := tab [(103, askLn lineNz)]
theorem good_nzT : Good nzT := good_cons does_lineNz good_nil
def eqFundsSpec : Vm.Spec := fun args h Q => ∃ l : List Ln, l.length ≤ 1073741824 ∧ args = [.sl 4 (l.map lnAv)] ∧ ∀ r h', IsFunds l r → Same h h' [] → Q (.v (.bool (!r.any lineNz))) h'
theorem does_eqFunds : Does Tryz.prog 28 eqFundsSpec := by
  refine does_of_awp (good_cons does_funds (good_cons (does_hasLn good_nzT) good_nil)) Tryz.func28 rfl (by decide +kernel) (by decide +kernel) ?_
  rintro args h Q ⟨l, hl, rfl, hq⟩
  refine ⟨by simp [Tryz.f28], ?_⟩
  rw [awpFunc_some (by rfl)]
  simp -dsimp only [Vm.G, List.lookup, Nat.reduceAdd, Nat.reduceBEq, Int.reduceBNe, Int.reduceBEq, Nat.reduceLeDiff, q28]
  refine call_one (S := fundsSpec) rfl _ GaL.rfl ⟨l, hl, rfl, fun r h1 hf hs => ?_⟩
  have hrl := hf.len
  simp -dsimp only [Vm.G, List.lookup, Nat.reduceAdd, Nat.reduceBEq, Int.reduceBNe, Int.reduceBEq, Nat.reduceLeDiff, q28]
  refine call_one (S := hasSpecLn nzT) rfl _ GaL.rfl ⟨103, lineNz, r, rfl, by omega, rfl, ?_⟩
  simp -dsimp only [Vm.G, List.lookup, Nat.reduceAdd, Nat.reduceBEq, Int.reduceBNe, Int.reduceBEq, Nat.reduceLeDiff, q28]
  exact hq r h1 hf hs
end Go.Proofs.Lx
/- The reference's sums of lines by fund: ref23.Funds, ref23.Equal. -/
set_option linter.unusedSimpArgs false
set_option linter.unusedVariables false
namespace Go.Proofs.Lx
open Go.Vm
attribute [local irreducible] awpArr awpBin awpMake awpAppend awpCvX awpStrOf awpBinX awpSlice awpBS awpStore awpAlloc awpCopy awpIndex awpDraw awpIdxX awpFa awpField awpLookup awpUpdate awpDelete awpClear awpRange awpNext awpEntry awpBuild awpClearS awpIdxL awpTree appB awpIdxO eltA treeA
theorem funds_nil : IsFunds [] [] := ⟨.nil, fun x => by simp⟩
theorem IsFunds.at {p r : List Ln} (h : IsFunds p r) (k : Nat) (hk : k < r.length) : r[k] = ⟨r[k].fund, 0, 0, sumF p r[k].fund⟩ ∧ ∃ y ∈ p, y.fund = r[k].fund :=
  ⟨((h.2 _).1 (List.getElem_mem hk)).2, ((h.2 _).1 (List.getElem_mem hk)).1⟩
theorem IsFunds.lt {p r : List Ln} (h : IsFunds p r) {i j : Nat} (hij : i < j) (hj : j < r.length) : (r[i]'(by omega)).fund < r[j].fund := List.pairwise_iff_getElem.1 h.1 i j (by omega) hj hij
theorem has_more {p : List Ln} {x : Ln} {n : Int} (d : n ≠ x.fund) : (∃ y ∈ p ++ [x], y.fund = n) ↔ ∃ y ∈ p, y.fund = n := ⟨fun ⟨y, hy, e⟩ => by
  rcases List.mem_append.1 hy with hy | hy
  · exact ⟨y, hy, e⟩
  · rw [List.mem_singleton] at hy; subst hy; exact (d e.symm).elim, fun ⟨y, hy, e⟩ => ⟨y, by simp [hy], e⟩⟩
theorem IsFunds.insert {p r : List Ln} (h : IsFunds p r) (x : Ln) (hx : I64 x.amt) (j : Nat) (hj : j ≤ r.length) (hb : ∀ k (hk : k < r.length), k < j → r[k].fund < x.fund) (ha : ∀ hk : j < r.length, x.fund < r[j].fund) :
    IsFunds (p ++ [x]) (r.take j ++ ⟨x.fund, 0, 0, x.amt⟩ :: r.drop j) := by
  have hno : ∀ z ∈ r, z.fund ≠ x.fund := fun z hz e => by
    obtain ⟨k, hk, rfl⟩ := List.getElem_of_mem hz
    by_cases hkj : k < j
    · have := hb k hk hkj; omega
    · have h1 := ha (by omega)
      by_cases hkj2 : k = j
      · subst hkj2; omega
      · have := h.lt (i := j) (j := k) (by omega) hk; omega
  have hnx : ¬ ∃ y ∈ p, y.fund = x.fund := fun hc => hno _ ((h.2 ⟨x.fund, 0, 0, sumF p x.fund⟩).2 ⟨hc, rfl⟩) rfl
  refine ⟨?_, fun z => ?_⟩
  · have hs : (r.take j ++ r.drop j).Pairwise (fun a b => a.fund < b.fund) := by rw [List.take_append_drop]; exact h.1
    rw [List.pairwise_append] at hs
    rw [List.pairwise_append, List.pairwise_cons]
    have hd : ∀ b ∈ r.drop j, x.fund < b.fund := fun b hb' => by
      obtain ⟨k, hk, rfl⟩ := List.getElem_of_mem hb'
      rw [List.length_drop] at hk
      rw [List.getElem_drop]
      have h1 := ha (by omega)
      by_cases hk0 : k = 0
      · subst hk0; exact h1
      · have := h.lt (i := j) (j := j + k) (by omega) (by omega); omega
    refine ⟨hs.1, ⟨hd, hs.2.1⟩, fun a ha' b hb' => ?_⟩
    rcases List.mem_cons.1 hb' with rfl | hb'
    · obtain ⟨k, hk, rfl⟩ := List.getElem_of_mem ha'
      rw [List.length_take] at hk
      rw [List.getElem_take]
      exact hb k (by omega) (by omega)
    · exact hs.2.2 a ha' b hb'
  · have hm : z ∈ r.take j ++ ⟨x.fund, 0, 0, x.amt⟩ :: r.drop j ↔ z = ⟨x.fund, 0, 0, x.amt⟩ ∨ z ∈ r := by
      have : z ∈ r ↔ z ∈ r.take j ∨ z ∈ r.drop j := by rw [← List.mem_append, List.take_append_drop]
      rw [this, List.mem_append, List.mem_cons]
      constructor
      · rintro (h | h | h)
        · exact .inr (.inl h)
        · exact .inl h
        · exact .inr (.inr h)
      · rintro (h | h | h)
        · exact .inr (.inl h)
        · exact .inl h
        · exact .inr (.inr h)
    rw [hm, sumF_step]
    by_cases d : z.fund = x.fund
    · rw [if_pos d]
      have e0 : w64 (sumF p z.fund + x.amt) = x.amt := by
        rw [d, sumF_none hnx, Int.zero_add]
        unfold I64 at hx
        exact wrap_i64 (by omega) (by omega)
      rw [e0]
      constructor
      · rintro (h1 | h1)
        · subst h1; exact ⟨⟨x, by simp, rfl⟩, rfl⟩
        · exact (hno z h1 d).elim
      · rintro ⟨-, h1⟩
        left; rw [h1, d]
    · rw [if_neg d, has_more d, ← h.2 z]
      exact ⟨fun h1 => h1.resolve_left fun e => d (by rw [e]), .inr⟩
theorem IsFunds.more {p r : List Ln} (h : IsFunds p r) (x : Ln) (j : Nat) (hj : j < r.length) (hx : r[j].fund = x.fund) :
    IsFunds (p ++ [x]) (r.set j ⟨r[j].fund, r[j].obj, r[j].node, w64 (r[j].amt + x.amt)⟩) := by
  obtain ⟨h1, h2⟩ := h.at j hj
  have e1 : r[j].obj = 0 := by rw [h1]
  have e2 : r[j].node = 0 := by rw [h1]
  have e3 : r[j].amt = sumF p x.fund := by rw [h1, ← hx]
  rw [e1, e2, e3, hx]
  have hmap : ∀ y : Ln, y.fund = x.fund → (r.set j y).map Ln.fund = r.map Ln.fund := fun y hy => by
    rw [List.map_set, hy, ← hx]
    apply List.ext_getElem (by simp)
    intro k k1 k2
    rw [List.getElem_set]
    split
    · subst_vars; rw [List.getElem_map]
    · rfl
  refine ⟨?_, fun z => ?_⟩
  · have := List.pairwise_map.2 h.1
    rw [← hmap ⟨x.fund, 0, 0, w64 (sumF p x.fund + x.amt)⟩ rfl] at this
    exact List.pairwise_map.1 this
  · rw [sumF_step]
    by_cases d : z.fund = x.fund
    · rw [if_pos d]
      constructor
      · intro hz
        obtain ⟨k, hk, rfl⟩ := List.getElem_of_mem hz
        rw [List.length_set] at hk
        by_cases hkj : j = k
        · subst hkj
          rw [List.getElem_set_self]
          exact ⟨⟨x, by simp, rfl⟩, rfl⟩
        · rw [List.getElem_set_ne hkj] at d
          rcases Nat.lt_or_ge k j with h' | h'
          · have := h.lt h' hj; omega
          · have := h.lt (i := j) (j := k) (by omega) hk; omega
      · rintro ⟨-, hz⟩
        rw [hz, d]
        exact List.mem_set hj _
    · rw [if_neg d, has_more d, ← h.2 z]
      constructor
      · intro hz
        rcases List.mem_or_eq_of_mem_set hz with h' | h'
        · exact h'
        · exact (d (by rw [h'])).elim
      · intro hz
        obtain ⟨k, hk, rfl⟩ := List.getElem_of_mem hz
        have hne : j ≠ k := fun e => by subst e; exact d hx
        have : (r.set j ⟨x.fund, 0, 0, w64 (sumF p x.fund + x.amt)⟩)[k]'(by rw [List.length_set]; exact hk) = r[k] := List.getElem_set_ne hne _
        rw [← this]; exact List.getElem_mem _
def rFundsSpec : Vm.Spec := fun args h Q => ∃ l : List Ln, l.length ≤ 1073741824 ∧ (∀ x ∈ l, x.ok) ∧ args = [.sl 4 (l.map lnAv)] ∧ ∀ r, IsFunds l r → Q (.own true 45 4 (r.map lnAv)) h
def fLess (r : List Ln) (j : Nat) (n : Int) : Bool := (r[j]?.map fun p => decide (p.fund < n)).getD false
def fSame (r : List Ln) (j : Nat) (n : Int) : Bool := (r[j]?.map fun p => p.fund == n).getD false
theorem fLess_true {r : List Ln} {j : Nat} {n : Int} (h : fLess r j n = true) : ∃ hj : j < r.length, r[j].fund < n := by
  unfold fLess at h
  by_cases hi : j < r.length
  · rw [List.getElem?_eq_getElem hi] at h; exact ⟨hi, by simpa using h⟩
  · rw [List.getElem?_eq_none (by omega)] at h; cases h
theorem fSame_true {r : List Ln} {j : Nat} {n : Int} (h : fSame r j n = true) : ∃ hj : j < r.length, r[j].fund = n := by
  unfold fSame at h
  by_cases hi : j < r.length
  · rw [List.getElem?_eq_getElem hi] at h; exact ⟨hi, by simpa using h⟩
  · rw [List.getElem?_eq_none (by omega)] at h; cases h
theorem f_above {r : List Ln} {j : Nat} {n : Int} (h1 : fLess r j n = false) (h2 : fSame r j n = false) : ∀ hk : j < r.length, n < r[j].fund := fun hk => by
  unfold fLess at h1; unfold fSame at h2
  rw [List.getElem?_eq_getElem hk] at h1 h2
  have h1 : ¬ r[j].fund < n := by simpa using h1
  have h2 : ¬ r[j].fund = n := by simpa using h2
  omega
set_option maxRecDepth 20000 in
set_option maxHeartbeats 16000000 in
theorem does_rFunds : Does Tryz.prog 27 rFundsSpec := by
  refine does_of_awp good_nil Tryz.func27 rfl (by decide +kernel) (by decide +kernel) ?_
  rintro args h Q ⟨l, hl, hok, rfl, hq⟩
  refine ⟨by simp [Tryz.f27], ?_⟩
  rw [awpFunc_some (by rfl)]
  simp -dsimp only [Vm.G, List.lookup, Nat.reduceAdd, Nat.reduceBEq, Int.reduceBNe, Int.reduceBEq, Nat.reduceLeDiff, q27]
  refine awp_loop (fun m s h' => ∃ (i : Nat) (r : List Ln), i + m = l.length ∧ IsFunds (l.take i) r ∧ h' = h ∧ s = mk [(0, .sl 4 (l.map lnAv)), (3, .own true 45 4 ((r).map lnAv)), (4, .v (.int .i64 (i : Nat)))])
    l.length _ (le_mk _ ?_) ⟨0, [], by omega, funds_nil, rfl, rfl⟩ ?_
  · simp only [List.forall_mem_cons, List.not_mem_nil, false_imp_iff, implies_true, and_true]
    try simp -dsimp only [Vm.G, List.lookup, Nat.reduceAdd, Nat.reduceBEq, Int.reduceBNe, Int.reduceBEq, Nat.reduceLeDiff, q27]
    repeat' first | exact Fg.refl _ | exact Fg.nil _ _ _ (by decide) | refine And.intro ?_ ?_
  · rintro m s h' ⟨i, r, hi, hF, rfl, rfl⟩
    simp -dsimp only [Vm.G, List.lookup, Nat.reduceAdd, Nat.reduceBEq, Int.reduceBNe, Int.reduceBEq, Nat.reduceLeDiff, q27]
    refine cond_intro (fun hcc => ?_) (fun hcc => ?_)
    · have hlt : i < l.length := by have := of_decide_eq_true hcc; omega
      have hw : IntKind.i64.wrap ((i : Int) + 1) = ((i + 1 : Nat) : Int) := by rw [wrap_i64 (by omega) (by omega)]; simp
      have hrl := hF.len
      rw [List.length_take] at hrl
      have hxe : ∃ x, l[i] = x := ⟨_, rfl⟩
      rcases hxe with ⟨x, hx⟩
      have hxo : I64 x.amt := (hok x (hx ▸ List.getElem_mem hlt)).2.2.2
      have hget : (l.map lnAv)[i]? = some (lnAv x) := by simp [hlt, hx]
      have htk : l.take (i + 1) = l.take i ++ [x] := by rw [List.take_succ_eq_append_getElem hlt, hx]
      simp -dsimp only [Vm.G, List.lookup, Nat.reduceAdd, Nat.reduceBEq, Int.reduceBNe, Int.reduceBEq, Nat.reduceLeDiff, q27]
      refine awp_loop (fun m s h2 => ∃ j : Nat, j + m = r.length ∧ h2 = h' ∧ (∀ k (hk : k < r.length), k < j → r[k].fund < x.fund) ∧ s = mk [(0, .sl 4 (l.map lnAv)), (3, .own true 45 4 (r.map lnAv)), (4, .v (.int .i64 i)), (5, .v (.int .i64 (j : Nat)))])
        r.length _ (le_mk _ ?_) ⟨0, by omega, rfl, fun _ _ hk => by omega, rfl⟩ ?_
      · simp only [List.forall_mem_cons, List.not_mem_nil, false_imp_iff, implies_true, and_true]
        try simp -dsimp only [Vm.G, List.lookup, Nat.reduceAdd, Nat.reduceBEq, Int.reduceBNe, Int.reduceBEq, Nat.reduceLeDiff, q27]
        repeat' first | exact Fg.refl _ | exact Fg.nil _ _ _ (by decide) | refine And.intro ?_ ?_
      · clear hcc
        rintro m s h2 ⟨j, hj, rfl, hb, rfl⟩
        have hwj : j < r.length → IntKind.i64.wrap ((j : Int) + 1) = ((j + 1 : Nat) : Int) := fun hlt => by rw [wrap_i64 (by omega) (by omega)]; simp
        simp -dsimp only [Vm.G, List.lookup, Nat.reduceAdd, Nat.reduceBEq, Int.reduceBNe, Int.reduceBEq, Nat.reduceLeDiff, q27]
        refine draw_cont [] (.take 0 (.take 1 (.take 2 (.take 3 (.take 4 (.take 5 (.take 6 (.take 7 (.take 8 (.take 10 (.take 11 (.take 12 (.take 13 (.alt 9 (.alt 14 (.take 15 (.take 16 (.done))) .stop) (.alt 14 (.alt 9 (.take 15 (.take 16 (.done))) .stop) (.stop)))))))))))))))) (fun s hx => hx = h2 ∧ s 28 = .v (.bool (fLess r j x.fund)) ∧ s 0 = .sl 4 (l.map lnAv) ∧ s 3 = .own true 45 4 (r.map lnAv) ∧ s 4 = .v (.int .i64 i) ∧ s 5 = .v (.int .i64 j)) (by kernel_rfl) (by kernel_rfl) (by kernel_rfl) (by decide) ?_ ?_
        · by_cases hjr : j < r.length
          · have c1 : decide ((j : Int) < r.length) = true := decide_eq_true (by omega)
            have hpe : ∃ p, r[j] = p := ⟨_, rfl⟩; rcases hpe with ⟨p, hp⟩
            have hgp : (r.map lnAv)[j]? = some (lnAv p) := by simp [hjr, hp]
            have hv : fLess r j x.fund = decide (p.fund < x.fund) := by unfold fLess; rw [List.getElem?_eq_getElem hjr, hp]; rfl
            simp only [hv]
            repeat' first
              | with_reducible exact True.intro
              | refine eltA_intro hgp ?_
              | refine eltA_intro hget ?_
              | (refine idx_map lnAv l i hlt ?_; simp only [hx, lnAv, lnCells])
              | refine idxO_intro (by omega) (by simp; omega) ?_
              | simp -dsimp only [Vm.G, List.lookup, Nat.reduceAdd, Nat.reduceBEq, Int.reduceBNe, Int.reduceBEq, Nat.reduceLeDiff, q27, c1, lnAv, lnCells, AV.cells, List.drop_zero, Int.toNat_natCast, List.length_map]
              | refine tree_alt ?_ ?_
          · have c1 : decide ((j : Int) < r.length) = false := decide_eq_false (by omega)
            have hv : fLess r j x.fund = false := by unfold fLess; rw [List.getElem?_eq_none (by omega)]; rfl
            simp only [hv]
            repeat' first
              | with_reducible exact True.intro
              | simp -dsimp only [Vm.G, List.lookup, Nat.reduceAdd, Nat.reduceBEq, Int.reduceBNe, Int.reduceBEq, Nat.reduceLeDiff, q27, c1, List.length_map]
              | refine tree_alt ?_ ?_
        · rintro s h3 ⟨rfl, e28, e0, e3, e4, e5⟩
          have hdl' := (Bool.eq_false_or_eq_true (fLess r j x.fund)).symm
          rcases hdl' with hb2 | hb2
          · rw [hb2] at e28
            simp -dsimp only [Vm.G, List.lookup, Nat.reduceAdd, Nat.reduceBEq, Int.reduceBNe, Int.reduceBEq, Nat.reduceLeDiff, q27, e28, e0, e3, e4, e5]
            refine draw_cont [] (.take 0 (.take 1 (.take 2 (.take 3 (.take 4 (.take 5 (.take 6 (.take 7 (.take 8 (.take 10 (.take 11 (.take 12 (.take 13 (.alt 9 (.alt 14 (.take 15 (.take 16 (.done))) .stop) (.alt 14 (.alt 9 (.take 15 (.take 16 (.done))) .stop) (.stop)))))))))))))))) (fun s hx => hx = h3 ∧ s 47 = .v (.bool (fSame r j x.fund)) ∧ s 0 = .sl 4 (l.map lnAv) ∧ s 3 = .own true 45 4 (r.map lnAv) ∧ s 4 = .v (.int .i64 i) ∧ s 5 = .v (.int .i64 j)) (by kernel_rfl) (by kernel_rfl) (by kernel_rfl) (by decide) ?_ ?_
            · by_cases hjr : j < r.length
              · have c1 : decide ((j : Int) < r.length) = true := decide_eq_true (by omega)
                have hpe : ∃ p, r[j] = p := ⟨_, rfl⟩; rcases hpe with ⟨p, hp⟩
                have hgp : (r.map lnAv)[j]? = some (lnAv p) := by simp [hjr, hp]
                have hv : fSame r j x.fund = (p.fund == x.fund) := by unfold fSame; rw [List.getElem?_eq_getElem hjr, hp]; rfl
                simp only [hv]
                repeat' first
                  | with_reducible exact True.intro
                  | refine eltA_intro hgp ?_
                  | refine eltA_intro hget ?_
                  | (refine idx_map lnAv l i hlt ?_; simp only [hx, lnAv, lnCells])
                  | refine idxO_intro (by omega) (by simp; omega) ?_
                  | simp -dsimp only [Vm.G, List.lookup, Nat.reduceAdd, Nat.reduceBEq, Int.reduceBNe, Int.reduceBEq, Nat.reduceLeDiff, q27, e28, e0, e3, e4, e5, c1, lnAv, lnCells, AV.cells, List.drop_zero, Int.toNat_natCast, List.length_map]
                  | refine tree_alt ?_ ?_
              · have c1 : decide ((j : Int) < r.length) = false := decide_eq_false (by omega)
                have hv : fSame r j x.fund = false := by unfold fSame; rw [List.getElem?_eq_none (by omega)]; rfl
                simp only [hv]
                repeat' first
                  | with_reducible exact True.intro
                  | simp -dsimp only [Vm.G, List.lookup, Nat.reduceAdd, Nat.reduceBEq, Int.reduceBNe, Int.reduceBEq, Nat.reduceLeDiff, q27, e28, e0, e3, e4, e5, c1, List.length_map]
                  | refine tree_alt ?_ ?_
            · rintro s3 h4 ⟨rfl, f47, f0, f3, f4, f5⟩
              clear e28 e0 e3 e4 e5
              have hds := (Bool.eq_false_or_eq_true (fSame r j x.fund)).symm
              rcases hds with hb4 | hb4
              · rw [hb4] at f47
                have hF2 := hF.insert x hxo j (by omega) hb (f_above hb2 hb4)
                rw [← htk] at hF2
                simp -dsimp only [Vm.G, List.lookup, Nat.reduceAdd, Nat.reduceBEq, Int.reduceBNe, Int.reduceBEq, Nat.reduceLeDiff, q27, f47, f0, f3, f4, f5]
                refine draw_cont [3] (.take 0 (.take 1 (.take 2 (.take 4 (.take 5 (.take 6 (.take 7 (.take 8 (.take 9 (.take 10 (.take 11 (.take 12 (.take 13 (.take 17 (.take 18 (.take 19 (.alt 3 (.alt 14 (.alt 15 (.alt 16 (.alt 20 (.alt 21 (.done) .stop) .stop) .stop) .stop) .stop) (.alt 14 (.alt 3 (.alt 15 (.alt 16 (.alt 20 (.alt 21 (.done) .stop) .stop) .stop) .stop) (.alt 15 (.alt 3 (.alt 16 (.alt 20 (.alt 21 (.done) .stop) .stop) .stop) .stop) (.stop))) (.stop))))))))))))))))))) (fun s hx => hx = h4 ∧ s 0 = .sl 4 (l.map lnAv) ∧ s 3 = .own true 45 4 ((r.take j ++ ⟨x.fund, 0, 0, x.amt⟩ :: r.drop j).map lnAv) ∧ s 4 = .v (.int .i64 i)) (by kernel_rfl) (by kernel_rfl) (by kernel_rfl) (by decide) ?_ ?_
                · have hjl : j ≤ r.length := by omega
                  have e1 : (r.map lnAv).take (j : Int).toNat = (r.take j).map lnAv := by rw [Int.toNat_natCast, List.map_take]
                  have e2 : (r.map lnAv).drop (j : Int).toNat = (r.drop j).map lnAv := by rw [Int.toNat_natCast, List.map_drop]
                  have hu : ∀ (l : List Ln), ∀ c ∈ l.map lnAv, c.cells.length = 4 := fun l c hc => by obtain ⟨y, -, rfl⟩ := List.mem_map.1 hc; rfl
                  have hfin : (r.take j).map lnAv ++ [AV.agg [.v (.int .i64 x.fund), .v (.int .i64 0), .v (.int .i64 0), .v (.int .i64 x.amt)]] ++ (r.drop j).map lnAv = (r.take j ++ ⟨x.fund, 0, 0, x.amt⟩ :: r.drop j).map lnAv := by simp [lnAv, lnCells]
                  clear hq hb hF2 hF hok
                  repeat' first
                    | with_reducible exact True.intro
                    | refine slice_h es36 (by omega) (by rw [List.length_map]; omega) ?_
                    | refine slice_l es36 (by omega) (by rw [List.length_map]; omega) ?_
                    | refine bs_intro zr45 (by decide) (by decide) rfl rfl (by simp [solid, AV.cells]) ?_
                    | refine app_sl Tryz.underlying36 (hu _) (by simp only [List.length_map, List.length_nil, List.length_append, List.length_cons, List.length_take, List.length_drop]; omega) ?_
                    | refine app_sl Tryz.underlying36 (by simp [AV.cells]) (by simp only [List.length_map, List.length_nil, List.length_append, List.length_cons, List.length_take, List.length_drop]; omega) ?_
                    | (refine idx_map lnAv l i hlt ?_; simp only [hx, lnAv, lnCells])
                    | simp -dsimp only [Vm.G, List.lookup, Nat.reduceAdd, Nat.reduceBEq, Int.reduceBNe, Int.reduceBEq, Nat.reduceLeDiff, q27, f47, f0, f3, f4, f5, e1, e2, hfin, List.nil_append, AV.cells, List.drop_zero, append_nil ei36, append_own ei36]
                    | refine tree_alt ?_ ?_
                · rintro s4 h5 ⟨rfl, g0, g3, g4⟩
                  simp -dsimp only [Vm.G, List.lookup, Nat.reduceAdd, Nat.reduceBEq, Int.reduceBNe, Int.reduceBEq, Nat.reduceLeDiff, q27, g0, g3, g4]
                  refine kept_intro ⟨l.length - (i + 1), by omega, _, le_mk [(0, .sl 4 (l.map lnAv)), (3, .own true 45 4 ((r.take j ++ ⟨x.fund, 0, 0, x.amt⟩ :: r.drop j).map lnAv)), (4, .v (.int .i64 (i + 1 : Nat)))] ?_, i + 1, _, by omega, hF2, rfl, rfl⟩
                  simp only [List.forall_mem_cons, List.not_mem_nil, false_imp_iff, implies_true, and_true, hw, g0, g3, g4]
                  try simp -dsimp only [Vm.G, List.lookup, Nat.reduceAdd, Nat.reduceBEq, Int.reduceBNe, Int.reduceBEq, Nat.reduceLeDiff, q27, hw, g0, g3, g4]
                  repeat' first | exact Fg.refl _ | exact Fg.nil _ _ _ (by decide) | refine And.intro ?_ ?_
              · rw [hb4] at f47
                have hst := fSame_true hb4
                rcases hst with ⟨hjr, hje⟩
                have hF2 := hF.more x j hjr hje
                rw [← htk] at hF2
                have hpe : ∃ p, r[j] = p := ⟨_, rfl⟩; rcases hpe with ⟨p, hp⟩
                have hgp : (r.map lnAv)[j]? = some (lnAv p) := by simp [hjr, hp]
                rw [hp] at hF2
                simp -dsimp only [Vm.G, List.lookup, Nat.reduceAdd, Nat.reduceBEq, Int.reduceBNe, Int.reduceBEq, Nat.reduceLeDiff, q27, f47, f0, f3, f4, f5]
                refine draw_cont [] (.take 0 (.take 1 (.take 2 (.take 3 (.take 4 (.take 5 (.take 7 (.take 8 (.take 9 (.take 10 (.take 11 (.alt 6 (.take 12 (.take 13 (.take 14 (.alt 15 (.done) .stop)))) .stop)))))))))))) (fun s hx => hx = h4 ∧ s 0 = .sl 4 (l.map lnAv) ∧ s 3 = .own true 45 4 ((r.set j ⟨p.fund, p.obj, p.node, w64 (p.amt + x.amt)⟩).map lnAv) ∧ s 4 = .v (.int .i64 i)) (by kernel_rfl) (by kernel_rfl) (by kernel_rfl) (by decide) ?_ ?_
                · have hre : (r.map lnAv).set j (.agg [.v (.int .i64 p.fund), .v (.int .i64 p.obj), .v (.int .i64 p.node), .v (.int .i64 (w64 (p.amt + x.amt)))]) = (r.set j ⟨p.fund, p.obj, p.node, w64 (p.amt + x.amt)⟩).map lnAv := by rw [List.map_set]; rfl
                  clear hq hb hF2 hF hok
                  repeat' first
                    | with_reducible exact True.intro
                    | refine eltA_intro hgp ?_
                    | (refine idx_map lnAv l i hlt ?_; simp only [hx, lnAv, lnCells])
                    | refine idxO_intro (by omega) (by simp; omega) ?_
                    | (refine store_elt 45 (r.map lnAv) (by simp -dsimp only [Vm.E, List.lookup, Nat.reduceAdd, Nat.reduceBEq, Int.reduceBNe, Int.reduceBEq, Bool.true_beq, Bool.false_beq, f3]) (y := lnAv p) hgp rfl rfl (by omega) rfl ?_
                       simp only [lnAv, lnCells, AV.cells, putCells, reCell, List.take_zero, List.nil_append, List.length_cons, List.length_nil, Nat.zero_add, Nat.reduceAdd, List.drop_succ_cons, List.drop_zero, List.append_nil, List.drop_nil])
                    | simp -dsimp only [Vm.G, List.lookup, Nat.reduceAdd, Nat.reduceBEq, Int.reduceBNe, Int.reduceBEq, Nat.reduceLeDiff, q27, f47, f0, f3, f4, f5, hre, lnAv, lnCells, AV.cells, List.drop_zero, List.drop_succ_cons, Int.toNat_natCast, List.length_map]
                    | refine tree_alt ?_ ?_
                · rintro s4 h5 ⟨rfl, g0, g3, g4⟩
                  simp -dsimp only [Vm.G, List.lookup, Nat.reduceAdd, Nat.reduceBEq, Int.reduceBNe, Int.reduceBEq, Nat.reduceLeDiff, q27, g0, g3, g4]
                  refine kept_intro ⟨l.length - (i + 1), by omega, _, le_mk [(0, .sl 4 (l.map lnAv)), (3, .own true 45 4 ((r.set j ⟨p.fund, p.obj, p.node, w64 (p.amt + x.amt)⟩).map lnAv)), (4, .v (.int .i64 (i + 1 : Nat)))] ?_, i + 1, _, by omega, hF2, rfl, rfl⟩
                  simp only [List.forall_mem_cons, List.not_mem_nil, false_imp_iff, implies_true, and_true, hw, g0, g3, g4]
                  try simp -dsimp only [Vm.G, List.lookup, Nat.reduceAdd, Nat.reduceBEq, Int.reduceBNe, Int.reduceBEq, Nat.reduceLeDiff, q27, hw, g0, g3, g4]
                  repeat' first | exact Fg.refl _ | exact Fg.nil _ _ _ (by decide) | refine And.intro ?_ ?_
          · rw [hb2] at e28
            have hst := fLess_true hb2
            rcases hst with ⟨hjr, hjl⟩
            simp -dsimp only [Vm.G, List.lookup, Nat.reduceAdd, Nat.reduceBEq, Int.reduceBNe, Int.reduceBEq, Nat.reduceLeDiff, q27, e28, e0, e3, e4, e5]
            refine kept_intro ⟨r.length - (j + 1), by omega, _, le_mk [(0, .sl 4 (l.map lnAv)), (3, .own true 45 4 (r.map lnAv)), (4, .v (.int .i64 i)), (5, .v (.int .i64 (j + 1 : Nat)))] ?_, j + 1, by omega, rfl, fun k hk hk2 => ?_, rfl⟩
            · simp only [List.forall_mem_cons, List.not_mem_nil, false_imp_iff, implies_true, and_true, hwj hjr, e0, e3, e4, e5]
              try simp -dsimp only [Vm.G, List.lookup, Nat.reduceAdd, Nat.reduceBEq, Int.reduceBNe, Int.reduceBEq, Nat.reduceLeDiff, q27, hwj hjr, e0, e3, e4, e5]
              repeat' first | exact Fg.refl _ | exact Fg.nil _ _ _ (by decide) | refine And.intro ?_ ?_
            · by_cases hkj : k = j
              · subst hkj; exact hjl
              · exact hb k hk (by omega)
    · have hge : ¬ i < l.length := by have := of_decide_eq_false hcc; omega
      rw [List.take_of_length_le (by omega)] at hF
      simp -dsimp only [Vm.G, List.lookup, Nat.reduceAdd, Nat.reduceBEq, Int.reduceBNe, Int.reduceBEq, Nat.reduceLeDiff, q27]
      exact hq r hF
def rEqFundsSpec : Vm.Spec := fun args h Q => ∃ l : List Ln, l.length ≤ 1073741824 ∧ (∀ x ∈ l, x.ok) ∧ args = [.sl 4 (l.map lnAv)] ∧ ∀ r, IsFunds l r → Q (.v (.bool (!r.any lineNz))) h
theorem does_rEqFunds : Does Tryz.prog 29 rEqFundsSpec := by
  refine does_of_awp (good_cons does_rFunds good_nil) Tryz.func29 rfl (by decide +kernel) (by decide +kernel) ?_
  rintro args h Q ⟨l, hl, hok, rfl, hq⟩
  refine ⟨by simp [Tryz.f29], ?_⟩
  rw [awpFunc_some (by rfl)]
  simp -dsimp only [Vm.G, List.lookup, Nat.reduceAdd, Nat.reduceBEq, Int.reduceBNe, Int.reduceBEq, Nat.reduceLeDiff, q29]
  refine call_one (S := rFundsSpec) rfl _ GaL.rfl ⟨l, hl, hok, rfl, fun r hF => ?_⟩
  have hrl := hF.len
  have hq := hq r hF
  simp -dsimp only [Vm.G, List.lookup, Nat.reduceAdd, Nat.reduceBEq, Int.reduceBNe, Int.reduceBEq, Nat.reduceLeDiff, q29]
  refine awp_loop (fun m s h' => ∃ i : Nat, i + m = r.length ∧ h' = h ∧ (∀ j (hj : j < r.length), j < i → lineNz r[j] = false) ∧ s = mk [(3, .own true 45 4 (r.map lnAv)), (4, .v (.int .i64 (i : Nat)))])
    r.length _ (le_mk _ ?_) ⟨0, by omega, rfl, fun j _ hj => by omega, rfl⟩ ?_
  · simp only [List.forall_mem_cons, List.not_mem_nil, false_imp_iff, implies_true, and_true]
    try simp -dsimp only [Vm.G, List.lookup, Nat.reduceAdd, Nat.reduceBEq, Int.reduceBNe, Int.reduceBEq, Nat.reduceLeDiff, q29]
    repeat' first | exact Fg.refl _ | exact Fg.nil _ _ _ (by decide) | refine And.intro ?_ ?_
  · rintro m s h' ⟨i, hi, rfl, hb, rfl⟩
    simp -dsimp only [Vm.G, List.lookup, Nat.reduceAdd, Nat.reduceBEq, Int.reduceBNe, Int.reduceBEq, Nat.reduceLeDiff, q29]
    refine cond_intro (fun hcc => ?_) (fun hcc => ?_)
    · have hlt : i < r.length := by have := of_decide_eq_true hcc; omega
      have hw : IntKind.i64.wrap ((i : Int) + 1) = ((i + 1 : Nat) : Int) := by rw [wrap_i64 (by omega) (by omega)]; simp
      have hget : (r.map lnAv)[i]? = some (lnAv r[i]) := by simp [hlt]
      have hbi : lineNz r[i] = false → ∀ j (hj : j < r.length), j < i + 1 → lineNz r[j] = false := fun h j hj hj2 => by
        by_cases hji : j = i
        · subst hji; exact h
        · exact hb j hj (by omega)
      have hany : lineNz r[i] = true → r.any lineNz = true := fun h => List.any_eq_true.2 ⟨r[i], List.getElem_mem hlt, h⟩
      generalize r[i] = x at hget hbi hany
      have hd := Bool.eq_false_or_eq_true (x.amt != 0)
      simp -dsimp only [Vm.G, List.lookup, Nat.reduceAdd, Nat.reduceBEq, Int.reduceBNe, Int.reduceBEq, Nat.reduceLeDiff, q29]
      refine idxO_intro (by omega) (by simp; omega) ?_
      simp -dsimp only [Vm.G, List.lookup, Nat.reduceAdd, Nat.reduceBEq, Int.reduceBNe, Int.reduceBEq, Nat.reduceLeDiff, q29, Int.toNat_natCast]
      refine eltA_intro hget ?_
      simp only [lnAv, lnCells]
      simp -dsimp only [Vm.G, List.lookup, Nat.reduceAdd, Nat.reduceBEq, Int.reduceBNe, Int.reduceBEq, Nat.reduceLeDiff, q29, AV.cells, List.drop_succ_cons, List.drop_zero]
      rcases hd with c1 | c1
      · rw [hany c1] at hq
        simp -dsimp only [Vm.G, List.lookup, Nat.reduceAdd, Nat.reduceBEq, Int.reduceBNe, Int.reduceBEq, Nat.reduceLeDiff, q29, c1]
        exact hq
      · simp -dsimp only [Vm.G, List.lookup, Nat.reduceAdd, Nat.reduceBEq, Int.reduceBNe, Int.reduceBEq, Nat.reduceLeDiff, q29, c1]
        refine kept_intro ⟨r.length - (i + 1), by omega, _, le_mk [(3, .own true 45 4 (r.map lnAv)), (4, .v (.int .i64 (i + 1 : Nat)))] ?_, i + 1, by omega, rfl, hbi c1, rfl⟩
        simp only [List.forall_mem_cons, List.not_mem_nil, false_imp_iff, implies_true, and_true, hw]
        try simp -dsimp only [Vm.G, List.lookup, Nat.reduceAdd, Nat.reduceBEq, Int.reduceBNe, Int.reduceBEq, Nat.reduceLeDiff, q29, hw]
        repeat' first | exact Fg.refl _ | exact Fg.nil _ _ _ (by decide) | refine And.intro ?_ ?_
    · have hge : ¬ i < r.length := by have := of_decide_eq_false hcc; omega
      have hany : r.any lineNz = false := by
        rw [List.any_eq_false]
        intro x hx
        obtain ⟨j, hj, rfl⟩ := List.getElem_of_mem hx
        rw [hb j hj (by omega)]; decide
      rw [hany] at hq
      simp -dsimp only [Vm.G, List.lookup, Nat.reduceAdd, Nat.reduceBEq, Int.reduceBNe, Int.reduceBEq, Nat.reduceLeDiff, q29]
      exact hq
end Go.Proofs.Lx
/- Charts, the reference's: ref21; lines checked: lines.Check, ref23.Check. -/
set_option linter.unusedSimpArgs false
set_option linter.unusedVariables false
namespace Go.Proofs.Lx
open Go.Vm
attribute [local irreducible] awpArr awpBin awpMake awpAppend awpCvX awpStrOf awpBinX awpSlice awpBS awpStore awpAlloc awpCopy awpIndex awpDraw awpIdxX awpFa awpField awpLookup awpUpdate awpDelete awpClear awpRange awpNext awpEntry awpBuild awpClearS awpIdxL awpTree appB awpIdxO eltA treeA
theorem does_rFundP : Does Tryz.prog 91 (predSpec fundP) := by
  refine does_of_awp good_nil Tryz.func91 rfl (by decide +kernel) (by decide +kernel) ?_
  rintro args h Q ⟨n, rfl, hq⟩
  refine ⟨by simp [Tryz.f91], ?_⟩
  rw [awpFunc_some (by rfl)]
  unfold fundP at hq
  simp -dsimp only [Vm.G, List.lookup, Nat.reduceAdd, Nat.reduceBEq, Int.reduceBNe, Int.reduceBEq, Nat.reduceLeDiff, q91]
  cases c1 : decide (100 ≤ n)
  · rw [c1] at hq
    simp -dsimp only [Vm.G, List.lookup, Nat.reduceAdd, Nat.reduceBEq, Int.reduceBNe, Int.reduceBEq, Nat.reduceLeDiff, q91]
    exact hq
  · rw [c1] at hq
    simp -dsimp only [Vm.G, List.lookup, Nat.reduceAdd, Nat.reduceBEq, Int.reduceBNe, Int.reduceBEq, Nat.reduceLeDiff, q91]
    exact hq
theorem does_rFixedP : Does Tryz.prog 174 (predSpec fixedP) := by
  refine does_of_awp good_nil Tryz.func174 rfl (by decide +kernel) (by decide +kernel) ?_
  rintro args h Q ⟨n, rfl, hq⟩
  refine ⟨by simp [Tryz.f174], ?_⟩
  rw [awpFunc_some (by rfl)]
  unfold fixedP at hq
  simp -dsimp only [Vm.G, List.lookup, Nat.reduceAdd, Nat.reduceBEq, Int.reduceBNe, Int.reduceBEq, Nat.reduceLeDiff, q174]
  cases c1 : (n == 1010)
  · rw [c1] at hq
    simp -dsimp only [Vm.G, List.lookup, Nat.reduceAdd, Nat.reduceBEq, Int.reduceBNe, Int.reduceBEq, Nat.reduceLeDiff, q174]
    cases c2 : (n == 1900)
    · rw [c2] at hq
      simp -dsimp only [Vm.G, List.lookup, Nat.reduceAdd, Nat.reduceBEq, Int.reduceBNe, Int.reduceBEq, Nat.reduceLeDiff, q174]
      cases c3 : (n == 2900)
      · rw [c3] at hq
        simp -dsimp only [Vm.G, List.lookup, Nat.reduceAdd, Nat.reduceBEq, Int.reduceBNe, Int.reduceBEq, Nat.reduceLeDiff, q174]
        exact hq
      · rw [c3] at hq
        simp -dsimp only [Vm.G, List.lookup, Nat.reduceAdd, Nat.reduceBEq, Int.reduceBNe, Int.reduceBEq, Nat.reduceLeDiff, q174]
        exact hq
    · rw [c2] at hq
      simp -dsimp only [Vm.G, List.lookup, Nat.reduceAdd, Nat.reduceBEq, Int.reduceBNe, Int.reduceBEq, Nat.reduceLeDiff, q174]
      exact hq
  · rw [c1] at hq
    simp -dsimp only [Vm.G, List.lookup, Nat.reduceAdd, Nat.reduceBEq, Int.reduceBNe, Int.reduceBEq, Nat.reduceLeDiff, q174]
    exact hq
def rcFundSpec : Vm.Spec := fun args h Q => ∃ (R : RId) (f : Fun) (n : Int), args = [.ptr R.iv 0, .v (.int .i64 n)] ∧ isRef h R f ∧ f.n ≤ 536870912 ∧ (∀ s, f (fundK n) = some s → Q (.tup [.v (.string ⟨s.toArray⟩), .v (.bool true)]) h) ∧ (f (fundK n) = none → Q (.tup [.v (.string ⟨([] : List UInt8).toArray⟩), .v (.bool false)]) h)
theorem does_rcFund : Does Tryz.prog 93 rcFundSpec := by
  refine does_of_awp (good_cons does_rKey (good_cons does_rGet good_nil)) Tryz.func93 rfl (by decide +kernel) (by decide +kernel) ?_
  rintro args h Q ⟨R, f, n, rfl, hR, hfn, hq1, hq2⟩
  refine ⟨by simp [Tryz.f93], ?_⟩
  rw [awpFunc_some (by rfl)]
  simp -dsimp only [Vm.G, List.lookup, Nat.reduceAdd, Nat.reduceBEq, Int.reduceBNe, Int.reduceBEq, Nat.reduceLeDiff, q93]
  refine bs_intro zr3 (by decide) (by decide) rfl rfl (by simp [solid, AV.cells]) ?_
  simp -dsimp only [Vm.G, List.lookup, Nat.reduceAdd, Nat.reduceBEq, Int.reduceBNe, Int.reduceBEq, Nat.reduceLeDiff, q93]
  refine call_one (S := keySpec) rfl _ GaL.rfl ⟨70, [n], by simp, rfl, ?_⟩
  simp -dsimp only [Vm.G, List.lookup, Nat.reduceAdd, Nat.reduceBEq, Int.reduceBNe, Int.reduceBEq, Nat.reduceLeDiff, q93]
  refine call_one (S := rGetSpec) rfl _ GaL.rfl ⟨R, f, fundK n, rfl, hR, hfn, fun s hf => ?_, fun hf => ?_⟩
  · simp -dsimp only [Vm.G, List.lookup, Nat.reduceAdd, Nat.reduceBEq, Int.reduceBNe, Int.reduceBEq, Nat.reduceLeDiff, q93]
    refine strOf_sl bt32 s rfl ?_
    simp -dsimp only [Vm.G, List.lookup, Nat.reduceAdd, Nat.reduceBEq, Int.reduceBNe, Int.reduceBEq, Nat.reduceLeDiff, q93]
    exact hq1 s hf
  · simp -dsimp only [Vm.G, List.lookup, Nat.reduceAdd, Nat.reduceBEq, Int.reduceBNe, Int.reduceBEq, Nat.reduceLeDiff, q93]
    refine strOf_sl bt32 [] rfl ?_
    simp -dsimp only [Vm.G, List.lookup, Nat.reduceAdd, Nat.reduceBEq, Int.reduceBNe, Int.reduceBEq, Nat.reduceLeDiff, q93]
    exact hq2 hf
def rcObjSpec : Vm.Spec := fun args h Q => ∃ (R : RId) (f : Fun) (n : Int), args = [.ptr R.iv 0, .v (.int .i64 n)] ∧ isRef h R f ∧ f.n ≤ 536870912 ∧ Q (.v (.bool (objOk f n))) h
theorem does_rcObj : Does Tryz.prog 99 rcObjSpec := by
  refine does_of_awp (good_cons does_rFixedP (good_cons does_rKey (good_cons does_rGet good_nil))) Tryz.func99 rfl (by decide +kernel) (by decide +kernel) ?_
  rintro args h Q ⟨R, f, n, rfl, hR, hfn, hq⟩
  refine ⟨by simp [Tryz.f99], ?_⟩
  rw [awpFunc_some (by rfl)]
  unfold objOk at hq
  simp -dsimp only [Vm.G, List.lookup, Nat.reduceAdd, Nat.reduceBEq, Int.reduceBNe, Int.reduceBEq, Nat.reduceLeDiff, q99]
  refine bs_intro zr3 (by decide) (by decide) rfl rfl (by simp [solid, AV.cells]) ?_
  simp -dsimp only [Vm.G, List.lookup, Nat.reduceAdd, Nat.reduceBEq, Int.reduceBNe, Int.reduceBEq, Nat.reduceLeDiff, q99]
  refine call_one (S := keySpec) rfl _ GaL.rfl ⟨79, [n], by simp, rfl, ?_⟩
  simp -dsimp only [Vm.G, List.lookup, Nat.reduceAdd, Nat.reduceBEq, Int.reduceBNe, Int.reduceBEq, Nat.reduceLeDiff, q99]
  refine call_one (S := rGetSpec) rfl _ GaL.rfl ⟨R, f, objK n, rfl, hR, hfn, fun s hf => ?_, fun hf => ?_⟩
  · rw [hf] at hq
    have hq : Q (.v (.bool true)) h := by simpa using hq
    simp -dsimp only [Vm.G, List.lookup, Nat.reduceAdd, Nat.reduceBEq, Int.reduceBNe, Int.reduceBEq, Nat.reduceLeDiff, q99]
    exact hq
  · rw [hf] at hq
    have hq : Q (.v (.bool (fixedP n))) h := by simpa using hq
    simp -dsimp only [Vm.G, List.lookup, Nat.reduceAdd, Nat.reduceBEq, Int.reduceBNe, Int.reduceBEq, Nat.reduceLeDiff, q99]
    refine call_one (S := predSpec fixedP) rfl _ GaL.rfl ⟨n, rfl, ?_⟩
    simp -dsimp only [Vm.G, List.lookup, Nat.reduceAdd, Nat.reduceBEq, Int.reduceBNe, Int.reduceBEq, Nat.reduceLeDiff, q99]
    exact hq
theorem thenO_nn (A B : Prop) : thenO .normal A B = A := rfl
set_option maxHeartbeats 1000000 in
theorem does_rName : Does Tryz.prog 92 nameSpec := by
  refine does_of_awp good_nil Tryz.func92 rfl (by decide +kernel) (by decide +kernel) ?_
  rintro args h Q ⟨s, hl, rfl, hq⟩
  refine ⟨by simp [Tryz.f92], ?_⟩
  rw [awpFunc_some (by rfl)]
  unfold nameOk at hq
  have hsz := size_mk s
  simp -dsimp only [Vm.G, List.lookup, Nat.reduceAdd, Nat.reduceBEq, Int.reduceBNe, Int.reduceBEq, Nat.reduceLeDiff, q92, hsz]
  refine awp_loop (fun m s' h' => ∃ i : Nat, i + m = s.length ∧ h' = h ∧ (∀ j (hj : j < s.length), j < i → badC s[j] = false) ∧ s' = mk [(0, .v (.string ⟨s.toArray⟩)), (3, .v (.int .i64 (i : Nat)))])
    s.length _ (le_mk _ ?_) ⟨0, by omega, rfl, fun j _ hj => by omega, rfl⟩ ?_
  · simp only [List.forall_mem_cons, List.not_mem_nil, false_imp_iff, implies_true, and_true]
    try simp -dsimp only [Vm.G, List.lookup, Nat.reduceAdd, Nat.reduceBEq, Int.reduceBNe, Int.reduceBEq, Nat.reduceLeDiff, q92]
    repeat' first | exact Fg.refl _ | exact Fg.nil _ _ _ (by decide) | refine And.intro ?_ ?_
  · rintro m s' h' ⟨i, hi, rfl, hb, rfl⟩
    simp -dsimp only [Vm.G, List.lookup, Nat.reduceAdd, Nat.reduceBEq, Int.reduceBNe, Int.reduceBEq, Nat.reduceLeDiff, q92, hsz]
    refine cond_intro (fun hcc => ?_) (fun hcc => ?_)
    · have hlt : i < s.length := by have := of_decide_eq_true hcc; omega
      have hw : IntKind.i64.wrap ((i : Int) + 1) = ((i + 1 : Nat) : Int) := by rw [wrap_i64 (by omega) (by omega)]; simp
      have hany : badC s[i] = true → s.any badC = true := fun h => List.any_eq_true.2 ⟨s[i], List.getElem_mem hlt, h⟩
      have hbi : badC s[i] = false → ∀ j (hj : j < s.length), j < i + 1 → badC s[j] = false := fun h j hj hj2 => by
        by_cases hji : j = i
        · subst hji; exact h
        · exact hb j hj (by omega)
      have hgd : (ByteArray.mk s.toArray).data.toList.getD (i : Int).toNat 0 = s[i] := by simp [List.getD, hlt]
      refine index_str Tryz.underlying9 (by omega) (by rw [hsz]; omega) ?_
      rw [hgd]
      generalize s[i] = c at hany hbi hgd ⊢
      simp -dsimp only [Vm.G, List.lookup, Nat.reduceAdd, Nat.reduceBEq, Int.reduceBNe, Int.reduceBEq, Nat.reduceLeDiff, q92]
      cases c1 : decide ((c.toNat : Int) < 32)
      · simp -dsimp only [Vm.G, List.lookup, Nat.reduceAdd, Nat.reduceBEq, Int.reduceBNe, Int.reduceBEq, Nat.reduceLeDiff, q92]
        refine index_str Tryz.underlying9 (by omega) (by rw [hsz]; omega) ?_
        rw [hgd]
        simp -dsimp only [Vm.G, List.lookup, Nat.reduceAdd, Nat.reduceBEq, Int.reduceBNe, Int.reduceBEq, Nat.reduceLeDiff, q92]
        cases c2 : decide ((c.toNat : Int) > 126)
        · have hb1 : badC c = false := by unfold badC; rw [c1, c2]; rfl
          simp -dsimp only [Vm.G, List.lookup, Nat.reduceAdd, Nat.reduceBEq, Int.reduceBNe, Int.reduceBEq, Nat.reduceLeDiff, q92]
          simp only [thenO_nn]
          refine kept_intro ⟨s.length - (i + 1), by omega, _, le_mk [(0, .v (.string ⟨s.toArray⟩)), (3, .v (.int .i64 (i + 1 : Nat)))] ?_, i + 1, by omega, rfl, hbi hb1, rfl⟩
          simp only [List.forall_mem_cons, List.not_mem_nil, false_imp_iff, implies_true, and_true, hw]
          try simp -dsimp only [Vm.G, List.lookup, Nat.reduceAdd, Nat.reduceBEq, Int.reduceBNe, Int.reduceBEq, Nat.reduceLeDiff, q92, hw]
          repeat' first | exact Fg.refl _ | exact Fg.nil _ _ _ (by decide) | refine And.intro ?_ ?_
        · have hb1 : badC c = true := by unfold badC; rw [c1, c2]; rfl
          rw [hany hb1] at hq
          have hq : Q (.v (.bool false)) h' := by simpa using hq
          simp -dsimp only [Vm.G, List.lookup, Nat.reduceAdd, Nat.reduceBEq, Int.reduceBNe, Int.reduceBEq, Nat.reduceLeDiff, q92]
          exact hq
      · have hb1 : badC c = true := by unfold badC; rw [c1]; rfl
        rw [hany hb1] at hq
        have hq : Q (.v (.bool false)) h' := by simpa using hq
        simp -dsimp only [Vm.G, List.lookup, Nat.reduceAdd, Nat.reduceBEq, Int.reduceBNe, Int.reduceBEq, Nat.reduceLeDiff, q92]
        exact hq
    · have hge : ¬ i < s.length := by have := of_decide_eq_false hcc; omega
      have hany : s.any badC = false := by
        rw [List.any_eq_false]
        intro x hx
        obtain ⟨j, hj, rfl⟩ := List.getElem_of_mem hx
        rw [hb j hj (by omega)]; decide
      rw [hany] at hq
      simp -dsimp only [Vm.G, List.lookup, Nat.reduceAdd, Nat.reduceBEq, Int.reduceBNe, Int.reduceBEq, Nat.reduceLeDiff, q92, hsz]
      cases c1 : decide ((s.length : Int) ≥ 1)
      · have c0 : (s.length == 0) = true := beq_iff_eq.2 (by have := of_decide_eq_false c1; omega)
        rw [c0] at hq
        simp -dsimp only [Vm.G, List.lookup, Nat.reduceAdd, Nat.reduceBEq, Int.reduceBNe, Int.reduceBEq, Nat.reduceLeDiff, q92, hsz]
        exact hq
      · have c0 : (s.length == 0) = false := by have := of_decide_eq_true c1; exact beq_eq_false_iff_ne.2 (by omega)
        rw [c0] at hq
        have e : decide (s.length ≤ 20) = decide ((s.length : Int) ≤ 20) := by
          by_cases h : s.length ≤ 20
          · rw [decide_eq_true h, decide_eq_true (by omega)]
          · rw [decide_eq_false h, decide_eq_false (by omega)]
        rw [e] at hq
        have hq : Q (.v (.bool (decide ((s.length : Int) ≤ 20)))) h' := by simpa using hq
        simp -dsimp only [Vm.G, List.lookup, Nat.reduceAdd, Nat.reduceBEq, Int.reduceBNe, Int.reduceBEq, Nat.reduceLeDiff, q92, hsz]
        exact hq
theorem ofOf_num {k v : List UInt8} {tag : UInt8} (hp : [tag].isPrefixOf k = true) : ofOf k tag 1 = (numF (k, v)).map fun n => [n] := by
  have htag : ∀ t l', splitOf k = some (t, l') → t = tag := fun t l' hs => by
    unfold splitOf at hs
    split at hs
    · cases hs
    · split at hs
      · cases hs
        have hpre' : tag = t := by simpa [List.isPrefixOf] using hp
        exact hpre'.symm
      · cases hs
  unfold ofOf numF
  simp only
  cases hx : splitOf k with
  | none => rfl
  | some q =>
    obtain ⟨t, l'⟩ := q
    have ht := htag t l' hx
    simp only
    match l' with
    | [] => simp
    | [n] => simp [ht]
    | _ :: _ :: _ => simp; omega
def rcAllSpec : Vm.Spec := fun args h Q => ∃ (R : RId) (f : Fun) (tag : UInt8), args = [.ptr R.iv 0, .v (.int .u8 tag.toNat)] ∧ isRef h R f ∧ f.n ≤ 536870912 ∧
  ∀ l, ScanIs f [tag] l → l.length ≤ f.n → Q (.own true 3 1 ((allF l).map encI)) h
set_option maxRecDepth 20000 in
set_option maxHeartbeats 1000000 in
theorem does_rcAll : Does Tryz.prog 170 rcAllSpec := by
  refine does_of_awp (good_cons does_rScan (good_cons does_rOf good_nil)) Tryz.func170 rfl (by decide +kernel) (by decide +kernel) ?_
  rintro args h Q ⟨R, f, tag, rfl, hR, hn, hq⟩
  refine ⟨by simp [Tryz.f170], ?_⟩
  rw [awpFunc_some (by rfl)]
  simp -dsimp only [Vm.G, List.lookup, Nat.reduceAdd, Nat.reduceBEq, Int.reduceBNe, Int.reduceBEq, Nat.reduceLeDiff, q170]
  refine bs_intro zr5 (by decide) (by decide) rfl rfl (by simp [solid, AV.cells]) ?_
  simp -dsimp only [Vm.G, List.lookup, Nat.reduceAdd, Nat.reduceBEq, Int.reduceBNe, Int.reduceBEq, Nat.reduceLeDiff, q170]
  refine call_one (S := rScanSpec) rfl _ GaL.rfl ⟨R, f, [tag], rfl, by simp, hR, hn, fun l hsc hln => ?_⟩
  simp -dsimp only [Vm.G, List.lookup, Nat.reduceAdd, Nat.reduceBEq, Int.reduceBNe, Int.reduceBEq, Nat.reduceLeDiff, q170]
  refine awp_loop (fun m s h' => ∃ i : Nat, i + m = l.length ∧ h' = h ∧ s = mk [(1, .v (.int .u8 tag.toNat)), (5, .own true 3 1 ((allF (l.take (i))).map encI)), (6, .own true 155 2 (l.map kvAv)), (7, .v (.int .i64 (i : Nat)))])
    l.length _ (le_mk _ ?_) ⟨0, by omega, rfl, rfl⟩ ?_
  · simp only [List.forall_mem_cons, List.not_mem_nil, false_imp_iff, implies_true, and_true]
    try simp -dsimp only [Vm.G, List.lookup, Nat.reduceAdd, Nat.reduceBEq, Int.reduceBNe, Int.reduceBEq, Nat.reduceLeDiff, q170]
    repeat' first | exact Fg.refl _ | exact Fg.nil _ _ _ (by decide) | refine And.intro ?_ ?_
  · rintro m s h' ⟨i, hi, rfl, rfl⟩
    simp -dsimp only [Vm.G, List.lookup, Nat.reduceAdd, Nat.reduceBEq, Int.reduceBNe, Int.reduceBEq, Nat.reduceLeDiff, q170, List.length_map]
    refine cond_intro (fun hcc => ?_) (fun hcc => ?_)
    · have hlt : i < l.length := by have := of_decide_eq_true hcc; omega
      have hw : IntKind.i64.wrap ((i : Int) + 1) = ((i + 1 : Nat) : Int) := by rw [wrap_i64 (by omega) (by omega)]; simp
      have hget : (l.map kvAv)[i]? = some (kvAv l[i]) := by simp [hlt]
      have est := filterMap_step numF l i hlt
      have hal : (allF (l.take i)).length ≤ i := filterMap_le numF l i
      have hin := (hsc.2 l[i].1 l[i].2).1 (List.getElem_mem hlt)
      have hkl : l[i].1.length ≤ 32 := (hR.len hin.1).1
      have hof := ofOf_num (v := l[i].2) hin.2
      clear hin
      generalize l[i] = p at hget est hkl hof
      obtain ⟨k, v⟩ := p
      simp only at hkl hof
      simp -dsimp only [Vm.G, List.lookup, Nat.reduceAdd, Nat.reduceBEq, Int.reduceBNe, Int.reduceBEq, Nat.reduceLeDiff, q170]
      refine idxO_intro (by omega) (by simp; omega) ?_
      simp -dsimp only [Vm.G, List.lookup, Nat.reduceAdd, Nat.reduceBEq, Int.reduceBNe, Int.reduceBEq, Nat.reduceLeDiff, q170, Int.toNat_natCast]
      refine eltA_intro hget ?_
      simp only [kvAv]
      simp -dsimp only [Vm.G, List.lookup, Nat.reduceAdd, Nat.reduceBEq, Int.reduceBNe, Int.reduceBEq, Nat.reduceLeDiff, q170, AV.cells, List.drop_zero]
      refine call_one (S := rOfSpec) rfl _ GaL.rfl ⟨k, tag, 1, by omega, rfl, fun hs => ?_, fun l' hs => ?_⟩
      · rw [hs] at hof
        have hnn : numF (k, v) = none := by
          cases hx : numF (k, v) with
          | none => rfl
          | some n => rw [hx] at hof; cases hof
        rw [hnn] at est
        simp -dsimp only [Vm.G, List.lookup, Nat.reduceAdd, Nat.reduceBEq, Int.reduceBNe, Int.reduceBEq, Nat.reduceLeDiff, q170]
        refine kept_intro ⟨l.length - (i + 1), by omega, _, le_mk [(1, .v (.int .u8 tag.toNat)), (5, .own true 3 1 ((allF (l.take (i + 1))).map encI)), (6, .own true 155 2 (l.map kvAv)), (7, .v (.int .i64 (i + 1 : Nat)))] ?_, i + 1, by omega, rfl, rfl⟩
        simp only [List.forall_mem_cons, List.not_mem_nil, false_imp_iff, implies_true, and_true, hw, est, Option.toList, List.append_nil]
        try simp -dsimp only [Vm.G, List.lookup, Nat.reduceAdd, Nat.reduceBEq, Int.reduceBNe, Int.reduceBEq, Nat.reduceLeDiff, q170, hw, est, Option.toList, List.append_nil]
        repeat' first | exact Fg.refl _ | exact Fg.nil _ _ _ (by decide) | refine And.intro ?_ ?_
      · rw [hs] at hof
        have hnn : ∃ n, numF (k, v) = some n ∧ l' = [n] := by
          cases hx : numF (k, v) with
          | none => rw [hx] at hof; cases hof
          | some n => rw [hx] at hof; cases hof; exact ⟨n, rfl, rfl⟩
        rcases hnn with ⟨n, hnn, rfl⟩
        rw [hnn] at est
        have g0 : (([n] : List Int).map encI)[(0 : Int).toNat]? = some (encI n) := rfl
        have hl1 : (([n] : List Int).map encI).length = 1 := rfl
        generalize hxs : ([n] : List Int).map encI = xs at g0 hl1 ⊢
        simp -dsimp only [Vm.G, List.lookup, Nat.reduceAdd, Nat.reduceBEq, Int.reduceBNe, Int.reduceBEq, Nat.reduceLeDiff, q170]
        refine idxO_intro (by decide) (by rw [hl1]; decide) ?_
        simp -dsimp only [Vm.G, List.lookup, Nat.reduceAdd, Nat.reduceBEq, Int.reduceBNe, Int.reduceBEq, Nat.reduceLeDiff, q170]
        refine eltA_intro g0 ?_
        simp only [encI]
        simp -dsimp only [Vm.G, List.lookup, Nat.reduceAdd, Nat.reduceBEq, Int.reduceBNe, Int.reduceBEq, Nat.reduceLeDiff, q170, AV.cells, List.drop_zero]
        refine bs_intro zr3 (by decide) (by decide) rfl rfl (by simp [solid, AV.cells]) ?_
        simp -dsimp only [Vm.G, List.lookup, Nat.reduceAdd, Nat.reduceBEq, Int.reduceBNe, Int.reduceBEq, Nat.reduceLeDiff, q170]
        refine app_sl Tryz.underlying28 (by simp [AV.cells]) (by simp only [List.length_map, List.length_cons, List.length_nil]; omega) ?_
        simp -dsimp only [Vm.G, List.lookup, Nat.reduceAdd, Nat.reduceBEq, Int.reduceBNe, Int.reduceBEq, Nat.reduceLeDiff, q170]
        refine kept_intro ⟨l.length - (i + 1), by omega, _, le_mk [(1, .v (.int .u8 tag.toNat)), (5, .own true 3 1 ((allF (l.take (i + 1))).map encI)), (6, .own true 155 2 (l.map kvAv)), (7, .v (.int .i64 (i + 1 : Nat)))] ?_, i + 1, by omega, rfl, rfl⟩
        simp only [List.forall_mem_cons, List.not_mem_nil, false_imp_iff, implies_true, and_true, hw, est, Option.toList, List.map_append, List.map_cons, List.map_nil, encI]
        try simp -dsimp only [Vm.G, List.lookup, Nat.reduceAdd, Nat.reduceBEq, Int.reduceBNe, Int.reduceBEq, Nat.reduceLeDiff, q170, hw, est, Option.toList, List.map_append, List.map_cons, List.map_nil, encI]
        repeat' first | exact Fg.refl _ | exact Fg.nil _ _ _ (by decide) | refine And.intro ?_ ?_
    · have hge : ¬ i < l.length := by have := of_decide_eq_false hcc; omega
      simp -dsimp only [Vm.G, List.lookup, Nat.reduceAdd, Nat.reduceBEq, Int.reduceBNe, Int.reduceBEq, Nat.reduceLeDiff, q170]
      rw [List.take_of_length_le (by omega)]
      exact hq l hsc hln
def rcFundsSpec : Vm.Spec := fun args h Q => ∃ (R : RId) (f : Fun), args = [.ptr R.iv 0] ∧ isRef h R f ∧ f.n ≤ 536870912 ∧
  ∀ l, ScanIs f [70] l → l.length ≤ f.n → Q (.own true 3 1 ((allF l).map encI)) h
theorem does_rcFunds : Does Tryz.prog 94 rcFundsSpec := by
  refine does_of_awp (good_cons does_rcAll good_nil) Tryz.func94 rfl (by decide +kernel) (by decide +kernel) ?_
  rintro args h Q ⟨R, f, rfl, hR, hn, hq⟩
  refine ⟨by simp [Tryz.f94], ?_⟩
  rw [awpFunc_some (by rfl)]
  simp -dsimp only [Vm.G, List.lookup, Nat.reduceAdd, Nat.reduceBEq, Int.reduceBNe, Int.reduceBEq, Nat.reduceLeDiff, q94]
  refine call_one (S := rcAllSpec) rfl _ GaL.rfl ⟨R, f, 70, rfl, hR, hn, fun l hsc hln => ?_⟩
  simp -dsimp only [Vm.G, List.lookup, Nat.reduceAdd, Nat.reduceBEq, Int.reduceBNe, Int.reduceBEq, Nat.reduceLeDiff, q94]
  exact hq l hsc hln
def rcNewSpec : Vm.Spec := fun args h Q => ∃ (R : RId) (f : Fun) (n : Int) (s : List UInt8), s.length ≤ 1073741824 ∧ args = [.ptr R.iv 0, .v (.int .i64 n), .v (.string ⟨s.toArray⟩)] ∧ isRef h R f ∧ f.n ≤ 536870912 ∧
  ∀ h', isRef h' R (newFund f n s).1 → Same h h' (rFoot R) → Q (.v (.int .i64 (newFund f n s).2)) h'
set_option maxHeartbeats 1000000 in
theorem does_rcNew : Does Tryz.prog 22 rcNewSpec := by
  refine does_of_awp (good_cons does_rFundP (good_cons does_rName (good_cons does_rcFund (good_cons does_rcFunds (good_cons does_rKey (good_cons does_rPut good_nil)))))) Tryz.func22 rfl (by decide +kernel) (by decide +kernel) ?_
  rintro args h Q ⟨R, f, n, s, hsl, rfl, hR, hn, hq⟩
  refine ⟨by simp [Tryz.f22], ?_⟩
  rw [awpFunc_some (by rfl)]
  unfold newFund at hq
  simp -dsimp only [Vm.G, List.lookup, Nat.reduceAdd, Nat.reduceBEq, Int.reduceBNe, Int.reduceBEq, Nat.reduceLeDiff, q22]
  refine call_one (S := predSpec fundP) rfl _ GaL.rfl ⟨n, rfl, ?_⟩
  cases c1 : fundP n
  · rw [if_neg (by rw [c1]; simp)] at hq
    simp -dsimp only [Vm.G, List.lookup, Nat.reduceAdd, Nat.reduceBEq, Int.reduceBNe, Int.reduceBEq, Nat.reduceLeDiff, q22]
    exact hq h hR (.refl _ _)
  · simp -dsimp only [Vm.G, List.lookup, Nat.reduceAdd, Nat.reduceBEq, Int.reduceBNe, Int.reduceBEq, Nat.reduceLeDiff, q22]
    refine call_one (S := nameSpec) rfl _ GaL.rfl ⟨s, hsl, rfl, ?_⟩
    cases c2 : nameOk s
    · rw [if_neg (by rw [c2]; simp)] at hq
      simp -dsimp only [Vm.G, List.lookup, Nat.reduceAdd, Nat.reduceBEq, Int.reduceBNe, Int.reduceBEq, Nat.reduceLeDiff, q22]
      exact hq h hR (.refl _ _)
    · rw [if_pos ⟨c1, c2⟩] at hq
      have hsl2 := name_len c2
      simp -dsimp only [Vm.G, List.lookup, Nat.reduceAdd, Nat.reduceBEq, Int.reduceBNe, Int.reduceBEq, Nat.reduceLeDiff, q22]
      refine call_one (S := rcFundSpec) rfl _ GaL.rfl ⟨R, f, n, rfl, hR, hn, fun q hf => ?_, fun hf => ?_⟩
      · rw [if_pos (by rw [hf]; simp)] at hq
        simp -dsimp only [Vm.G, List.lookup, Nat.reduceAdd, Nat.reduceBEq, Int.reduceBNe, Int.reduceBEq, Nat.reduceLeDiff, q22]
        exact hq h hR (.refl _ _)
      · rw [if_neg (by rw [hf]; simp)] at hq
        simp -dsimp only [Vm.G, List.lookup, Nat.reduceAdd, Nat.reduceBEq, Int.reduceBNe, Int.reduceBEq, Nat.reduceLeDiff, q22]
        refine call_one (S := rcFundsSpec) rfl _ GaL.rfl ⟨R, f, rfl, hR, hn, fun l hsc hln => ?_⟩
        simp -dsimp only [Vm.G, List.lookup, Nat.reduceAdd, Nat.reduceBEq, Int.reduceBNe, Int.reduceBEq, Nat.reduceLeDiff, q22, List.length_map]
        cases c4 : decide (((allF l).length : Int) ≥ 40)
        · have d4 := of_decide_eq_false c4
          rw [if_neg (by rw [many_iff hsc]; omega)] at hq
          simp -dsimp only [Vm.G, List.lookup, Nat.reduceAdd, Nat.reduceBEq, Int.reduceBNe, Int.reduceBEq, Nat.reduceLeDiff, q22]
          refine bs_intro zr3 (by decide) (by decide) rfl rfl (by simp [solid, AV.cells]) ?_
          simp -dsimp only [Vm.G, List.lookup, Nat.reduceAdd, Nat.reduceBEq, Int.reduceBNe, Int.reduceBEq, Nat.reduceLeDiff, q22]
          refine call_one (S := keySpec) rfl _ GaL.rfl ⟨70, [n], by simp, rfl, ?_⟩
          simp -dsimp only [Vm.G, List.lookup, Nat.reduceAdd, Nat.reduceBEq, Int.reduceBNe, Int.reduceBEq, Nat.reduceLeDiff, q22]
          refine cvX_bytes bt32 Tryz.underlying9 (by rw [size_mk]; unfold maxLen; omega) ?_
          simp -dsimp only [Vm.G, List.lookup, Nat.reduceAdd, Nat.reduceBEq, Int.reduceBNe, Int.reduceBEq, Nat.reduceLeDiff, q22]
          refine call_one (S := rPutSpec) rfl _ GaL.rfl ⟨R, f, fundK n, s, rfl, hR, hn, fun _ h2 g1 g2 => ?_, fun hc => by rw [right_fund c2] at hc; cases hc⟩
          simp -dsimp only [Vm.G, List.lookup, Nat.reduceAdd, Nat.reduceBEq, Int.reduceBNe, Int.reduceBEq, Nat.reduceLeDiff, q22]
          exact hq h2 g1 g2
        · have d4 := of_decide_eq_true c4
          rw [if_pos ((many_iff hsc).2 (by omega))] at hq
          simp -dsimp only [Vm.G, List.lookup, Nat.reduceAdd, Nat.reduceBEq, Int.reduceBNe, Int.reduceBEq, Nat.reduceLeDiff, q22]
          exact hq h hR (.refl _ _)
/-- A line that may be. -/
def rightL (x : Ln) : Bool := !((x.amt == 0) || (decide (x.amt > 9007199254740992) || decide (x.amt < -9007199254740992))) && !((x.node != 0) || ((x.obj == 1900) || (x.obj == 2900)))
set_option maxHeartbeats 1000000 in
theorem does_rightL : Does Tryz.prog 97 (askLn rightL) := by
  refine does_of_awp good_nil Tryz.func97 rfl (by decide +kernel) (by decide +kernel) ?_
  rintro args h Q ⟨x, rfl, hq⟩
  refine ⟨by simp [Tryz.f97], ?_⟩
  rw [awpFunc_some (by rfl)]
  have hq' : ∀ b, rightL x = b → Q (.v (.bool b)) h := fun b hb => hb ▸ hq
  unfold rightL at hq'
  clear hq
  simp only [lnAv, lnCells]
  simp -dsimp only [Vm.G, List.lookup, Nat.reduceAdd, Nat.reduceBEq, Int.reduceBNe, Int.reduceBEq, Nat.reduceLeDiff, q97]
  cases c1 : (x.amt == 0)
  · simp -dsimp only [Vm.G, List.lookup, Nat.reduceAdd, Nat.reduceBEq, Int.reduceBNe, Int.reduceBEq, Nat.reduceLeDiff, q97, c1]
    cases c2 : decide (x.amt > 9007199254740992)
    · simp -dsimp only [Vm.G, List.lookup, Nat.reduceAdd, Nat.reduceBEq, Int.reduceBNe, Int.reduceBEq, Nat.reduceLeDiff, q97, c2]
      cases c3 : decide (x.amt < -9007199254740992)
      · simp -dsimp only [Vm.G, List.lookup, Nat.reduceAdd, Nat.reduceBEq, Int.reduceBNe, Int.reduceBEq, Nat.reduceLeDiff, q97, c3]
        cases c4 : (x.node != 0)
        · simp -dsimp only [Vm.G, List.lookup, Nat.reduceAdd, Nat.reduceBEq, Int.reduceBNe, Int.reduceBEq, Nat.reduceLeDiff, q97, c4]
          cases c5 : (x.obj == 1900)
          · simp -dsimp only [Vm.G, List.lookup, Nat.reduceAdd, Nat.reduceBEq, Int.reduceBNe, Int.reduceBEq, Nat.reduceLeDiff, q97, c5]
            cases c6 : (x.obj == 2900)
            · simp -dsimp only [Vm.G, List.lookup, Nat.reduceAdd, Nat.reduceBEq, Int.reduceBNe, Int.reduceBEq, Nat.reduceLeDiff, q97, c6]
              exact hq' _ (by rw [c1, c2, c3, c4, c5, c6]; rfl)
            · simp -dsimp only [Vm.G, List.lookup, Nat.reduceAdd, Nat.reduceBEq, Int.reduceBNe, Int.reduceBEq, Nat.reduceLeDiff, q97, c6]
              exact hq' _ (by rw [c1, c2, c3, c4, c5, c6]; rfl)
          · simp -dsimp only [Vm.G, List.lookup, Nat.reduceAdd, Nat.reduceBEq, Int.reduceBNe, Int.reduceBEq, Nat.reduceLeDiff, q97, c5]
            exact hq' _ (by rw [c1, c2, c3, c4, c5]; rfl)
        · simp -dsimp only [Vm.G, List.lookup, Nat.reduceAdd, Nat.reduceBEq, Int.reduceBNe, Int.reduceBEq, Nat.reduceLeDiff, q97, c4]
          exact hq' _ (by rw [c1, c2, c3, c4]; rfl)
      · simp -dsimp only [Vm.G, List.lookup, Nat.reduceAdd, Nat.reduceBEq, Int.reduceBNe, Int.reduceBEq, Nat.reduceLeDiff, q97, c3]
        exact hq' _ (by rw [c1, c2, c3]; rfl)
    · simp -dsimp only [Vm.G, List.lookup, Nat.reduceAdd, Nat.reduceBEq, Int.reduceBNe, Int.reduceBEq, Nat.reduceLeDiff, q97, c2]
      exact hq' _ (by rw [c1, c2]; rfl)
  · simp -dsimp only [Vm.G, List.lookup, Nat.reduceAdd, Nat.reduceBEq, Int.reduceBNe, Int.reduceBEq, Nat.reduceLeDiff, q97, c1]
    exact hq' _ (by rw [c1]; rfl)
set_option maxHeartbeats 1000000 in
theorem does_rRightL : Does Tryz.prog 98 (askLn rightL) := by
  refine does_of_awp good_nil Tryz.func98 rfl (by decide +kernel) (by decide +kernel) ?_
  rintro args h Q ⟨x, rfl, hq⟩
  refine ⟨by simp [Tryz.f98], ?_⟩
  rw [awpFunc_some (by rfl)]
  have hq' : ∀ b, rightL x = b → Q (.v (.bool b)) h := fun b hb => hb ▸ hq
  unfold rightL at hq'
  clear hq
  simp only [lnAv, lnCells]
  simp -dsimp only [Vm.G, List.lookup, Nat.reduceAdd, Nat.reduceBEq, Int.reduceBNe, Int.reduceBEq, Nat.reduceLeDiff, q98]
  cases c3 : decide (x.amt < -9007199254740992)
  · simp -dsimp only [Vm.G, List.lookup, Nat.reduceAdd, Nat.reduceBEq, Int.reduceBNe, Int.reduceBEq, Nat.reduceLeDiff, q98, c3]
    cases c2 : decide (x.amt > 9007199254740992)
    · simp -dsimp only [Vm.G, List.lookup, Nat.reduceAdd, Nat.reduceBEq, Int.reduceBNe, Int.reduceBEq, Nat.reduceLeDiff, q98, c2]
      cases c1 : (x.amt == 0)
      · simp -dsimp only [Vm.G, List.lookup, Nat.reduceAdd, Nat.reduceBEq, Int.reduceBNe, Int.reduceBEq, Nat.reduceLeDiff, q98, c1]
        cases c4 : (x.node != 0)
        · simp -dsimp only [Vm.G, List.lookup, Nat.reduceAdd, Nat.reduceBEq, Int.reduceBNe, Int.reduceBEq, Nat.reduceLeDiff, q98, c4]
          cases c5 : (x.obj != 1900)
          · have c5' : (x.obj == 1900) = true := by simpa using c5
            simp -dsimp only [Vm.G, List.lookup, Nat.reduceAdd, Nat.reduceBEq, Int.reduceBNe, Int.reduceBEq, Nat.reduceLeDiff, q98, c5]
            exact hq' _ (by rw [c1, c2, c3, c4, c5']; rfl)
          · have c5' : (x.obj == 1900) = false := by simpa using c5
            simp -dsimp only [Vm.G, List.lookup, Nat.reduceAdd, Nat.reduceBEq, Int.reduceBNe, Int.reduceBEq, Nat.reduceLeDiff, q98, c5]
            refine hq' _ ?_
            rw [c1, c2, c3, c4, c5']
            cases c6 : (x.obj == 2900)
            · simp only [bne, c6]; rfl
            · simp only [bne, c6]; rfl
        · simp -dsimp only [Vm.G, List.lookup, Nat.reduceAdd, Nat.reduceBEq, Int.reduceBNe, Int.reduceBEq, Nat.reduceLeDiff, q98, c4]
          exact hq' _ (by rw [c1, c2, c3, c4]; rfl)
      · simp -dsimp only [Vm.G, List.lookup, Nat.reduceAdd, Nat.reduceBEq, Int.reduceBNe, Int.reduceBEq, Nat.reduceLeDiff, q98, c1]
        exact hq' _ (by rw [c1, c2, c3]; rfl)
    · simp -dsimp only [Vm.G, List.lookup, Nat.reduceAdd, Nat.reduceBEq, Int.reduceBNe, Int.reduceBEq, Nat.reduceLeDiff, q98, c2]
      refine hq' _ ?_
      rw [c2, c3]
      cases (x.amt == 0) <;> rfl
  · simp -dsimp only [Vm.G, List.lookup, Nat.reduceAdd, Nat.reduceBEq, Int.reduceBNe, Int.reduceBEq, Nat.reduceLeDiff, q98, c3]
    refine hq' _ ?_
    rw [c3]
    cases (x.amt == 0) <;> cases decide (x.amt > 9007199254740992) <;> rfl
def knownL (f : Fun) (x : Ln) : Bool := (f (fundK x.fund)).isSome && objOk f x.obj
def sumA (l : List Ln) : Int := w64s (l.map (·.amt))
def checkL (f : Fun) (l : List Ln) : Int :=
  if l.length < 2 ∨ 6 < l.length then 1 else if l.all rightL = false then 1 else if l.all (knownL f) = false then 7 else if sumA l ≠ 0 then 10 else 0
theorem sumA_step (l : List Ln) (i : Nat) (h : i < l.length) : sumA (l.take (i + 1)) = w64 (sumA (l.take i) + l[i].amt) := by
  unfold sumA
  rw [List.take_succ_eq_append_getElem h, List.map_append, w64s, List.foldl_append]; rfl
theorem all_no {p : Ln → Bool} {l : List Ln} (i : Nat) (h : i < l.length) (hp : p l[i] = false) : l.all p = false := List.all_eq_false.2 ⟨l[i], List.getElem_mem h, by rw [hp]; decide⟩
theorem all_yes {p : Ln → Bool} {l : List Ln} (h : ∀ j (hj : j < l.length), p l[j] = true) : l.all p = true := List.all_eq_true.2 fun x hx => by
  obtain ⟨j, hj, rfl⟩ := List.getElem_of_mem hx
  exact h j hj
theorem yes_more {p : Ln → Bool} {l : List Ln} {i : Nat} (hb : ∀ j (hj : j < l.length), j < i → p l[j] = true) (hi : i < l.length) (h : p l[i] = true) : ∀ j (hj : j < l.length), j < i + 1 → p l[j] = true := fun j hj hj2 => by
  by_cases hji : j = i
  · subst hji; exact h
  · exact hb j hj (by omega)
def lCheckSpec : Vm.Spec := fun args h Q => ∃ (V : VId) (f : Fun) (l : List Ln), l.length ≤ 1073741824 ∧ args = [.ptr V.iv 0, .sl 4 (l.map lnAv)] ∧ isView h V f ∧ Q (.v (.int .i64 (checkL f l))) h
set_option maxRecDepth 20000 in
set_option maxHeartbeats 2000000 in
theorem does_lCheck : Does Tryz.prog 23 lCheckSpec := by
  refine does_of_awp (good_cons does_rightL (good_cons does_cFund (good_cons does_cObj good_nil))) Tryz.func23 rfl (by decide +kernel) (by decide +kernel) ?_
  rintro args h Q ⟨V, f, l, hl, rfl, hV, hq⟩
  refine ⟨by simp [Tryz.f23], ?_⟩
  rw [awpFunc_some (by rfl)]
  unfold checkL at hq
  simp -dsimp only [Vm.G, List.lookup, Nat.reduceAdd, Nat.reduceBEq, Int.reduceBNe, Int.reduceBEq, Nat.reduceLeDiff, q23]
  cases c1 : decide ((l.length : Int) < 2)
  · have d1 := of_decide_eq_false c1
    simp -dsimp only [Vm.G, List.lookup, Nat.reduceAdd, Nat.reduceBEq, Int.reduceBNe, Int.reduceBEq, Nat.reduceLeDiff, q23, c1]
    cases c2 : decide ((l.length : Int) > 6)
    · have d2 := of_decide_eq_false c2
      rw [if_neg (by omega)] at hq
      simp -dsimp only [Vm.G, List.lookup, Nat.reduceAdd, Nat.reduceBEq, Int.reduceBNe, Int.reduceBEq, Nat.reduceLeDiff, q23, c2]
      refine awp_loop (fun m s h' => ∃ i : Nat, i + m = l.length ∧ h' = h ∧ (∀ j (hj : j < l.length), j < i → rightL l[j] = true) ∧ s = mk [(0, .ptr V.iv 0), (1, .sl 4 (l.map lnAv)), (5, .v (.int .i64 (sumA (l.take (i))))), (20, .sl 4 (l.map lnAv)), (21, .v (.int .i64 l.length)), (22, .v (.int .i64 (i : Nat)))])
        l.length _ (le_mk _ ?_) ⟨0, by omega, rfl, fun _ _ hj => by omega, rfl⟩ ?_
      · simp only [List.forall_mem_cons, List.not_mem_nil, false_imp_iff, implies_true, and_true]
        try simp -dsimp only [Vm.G, List.lookup, Nat.reduceAdd, Nat.reduceBEq, Int.reduceBNe, Int.reduceBEq, Nat.reduceLeDiff, q23]
        repeat' first | exact Fg.refl _ | exact Fg.nil _ _ _ (by decide) | refine And.intro ?_ ?_
      · clear c1 c2
        rintro m s h' ⟨i, hi, rfl, hb, rfl⟩
        simp -dsimp only [Vm.G, List.lookup, Nat.reduceAdd, Nat.reduceBEq, Int.reduceBNe, Int.reduceBEq, Nat.reduceLeDiff, q23]
        refine cond_intro (fun hcc => ?_) (fun hcc => ?_)
        · have hlt : i < l.length := by have := of_decide_eq_true hcc; omega
          have hw : IntKind.i64.wrap ((i : Int) + 1) = ((i + 1 : Nat) : Int) := by rw [wrap_i64 (by omega) (by omega)]; simp
          have hst := sumA_step l i hlt
          have hno := all_no (p := rightL) i hlt
          have hyes := yes_more hb hlt
          have hxe : ∃ x, l[i] = x := ⟨_, rfl⟩
          rcases hxe with ⟨x, hx⟩
          rw [hx] at hst hno hyes
          simp -dsimp only [Vm.G, List.lookup, Nat.reduceAdd, Nat.reduceBEq, Int.reduceBNe, Int.reduceBEq, Nat.reduceLeDiff, q23]
          refine idx_map lnAv l i hlt ?_
          simp only [hx, lnAv, lnCells]
          simp -dsimp only [Vm.G, List.lookup, Nat.reduceAdd, Nat.reduceBEq, Int.reduceBNe, Int.reduceBEq, Nat.reduceLeDiff, q23, AV.cells]
          refine call_one (S := askLn rightL) rfl _ GaL.rfl ⟨x, rfl, ?_⟩
          have hd := (Bool.eq_false_or_eq_true (rightL x)).symm
          rcases hd with c3 | c3
          · rw [if_pos (hno c3)] at hq
            simp -dsimp only [Vm.G, List.lookup, Nat.reduceAdd, Nat.reduceBEq, Int.reduceBNe, Int.reduceBEq, Nat.reduceLeDiff, q23, c3]
            exact hq
          · simp -dsimp only [Vm.G, List.lookup, Nat.reduceAdd, Nat.reduceBEq, Int.reduceBNe, Int.reduceBEq, Nat.reduceLeDiff, q23, c3]
            refine kept_intro ⟨l.length - (i + 1), by omega, _, le_mk [(0, .ptr V.iv 0), (1, .sl 4 (l.map lnAv)), (5, .v (.int .i64 (sumA (l.take (i + 1))))), (20, .sl 4 (l.map lnAv)), (21, .v (.int .i64 l.length)), (22, .v (.int .i64 (i + 1 : Nat)))] ?_, i + 1, by omega, rfl, hyes c3, rfl⟩
            simp only [List.forall_mem_cons, List.not_mem_nil, false_imp_iff, implies_true, and_true, hw, hst]
            try simp -dsimp only [Vm.G, List.lookup, Nat.reduceAdd, Nat.reduceBEq, Int.reduceBNe, Int.reduceBEq, Nat.reduceLeDiff, q23, hw, hst]
            repeat' first | exact Fg.refl _ | exact Fg.nil _ _ _ (by decide) | refine And.intro ?_ ?_
        · have hge : ¬ i < l.length := by have := of_decide_eq_false hcc; omega
          rw [if_neg (by rw [all_yes fun j hj => hb j hj (by omega)]; decide)] at hq
          simp -dsimp only [Vm.G, List.lookup, Nat.reduceAdd, Nat.reduceBEq, Int.reduceBNe, Int.reduceBEq, Nat.reduceLeDiff, q23]
          rw [List.take_of_length_le (by omega)]
          refine awp_loop (fun m s h2 => ∃ i : Nat, i + m = l.length ∧ h2 = h' ∧ (∀ j (hj : j < l.length), j < i → knownL f l[j] = true) ∧ s = mk [(0, .ptr V.iv 0), (5, .v (.int .i64 (sumA l))), (34, .sl 4 (l.map lnAv)), (35, .v (.int .i64 l.length)), (36, .v (.int .i64 (i : Nat)))])
            l.length _ (le_mk _ ?_) ⟨0, by omega, rfl, fun _ _ hj => by omega, rfl⟩ ?_
          · simp only [List.forall_mem_cons, List.not_mem_nil, false_imp_iff, implies_true, and_true]
            try simp -dsimp only [Vm.G, List.lookup, Nat.reduceAdd, Nat.reduceBEq, Int.reduceBNe, Int.reduceBEq, Nat.reduceLeDiff, q23]
            repeat' first | exact Fg.refl _ | exact Fg.nil _ _ _ (by decide) | refine And.intro ?_ ?_
          · clear hi hcc hge hb
            rintro m s h2 ⟨i, hi, rfl, hb, rfl⟩
            simp -dsimp only [Vm.G, List.lookup, Nat.reduceAdd, Nat.reduceBEq, Int.reduceBNe, Int.reduceBEq, Nat.reduceLeDiff, q23]
            refine cond_intro (fun hcc => ?_) (fun hcc => ?_)
            · have hlt : i < l.length := by have := of_decide_eq_true hcc; omega
              have hw : IntKind.i64.wrap ((i : Int) + 1) = ((i + 1 : Nat) : Int) := by rw [wrap_i64 (by omega) (by omega)]; simp
              have hno := all_no (p := knownL f) i hlt
              have hyes := yes_more hb hlt
              have hxe : ∃ x, l[i] = x := ⟨_, rfl⟩
              rcases hxe with ⟨x, hx⟩
              rw [hx] at hno hyes
              have hkd : knownL f x = ((f (fundK x.fund)).isSome && objOk f x.obj) := rfl
              simp -dsimp only [Vm.G, List.lookup, Nat.reduceAdd, Nat.reduceBEq, Int.reduceBNe, Int.reduceBEq, Nat.reduceLeDiff, q23]
              refine idx_map lnAv l i hlt ?_
              simp only [hx, lnAv, lnCells]
              simp -dsimp only [Vm.G, List.lookup, Nat.reduceAdd, Nat.reduceBEq, Int.reduceBNe, Int.reduceBEq, Nat.reduceLeDiff, q23, AV.cells]
              refine call_one (S := cFundSpec) rfl _ GaL.rfl ⟨V, f, x.fund, rfl, hV, fun q hf => ?_, fun hf => ?_⟩
              · rw [hf] at hkd
                simp -dsimp only [Vm.G, List.lookup, Nat.reduceAdd, Nat.reduceBEq, Int.reduceBNe, Int.reduceBEq, Nat.reduceLeDiff, q23]
                refine call_one (S := cObjSpec) rfl _ GaL.rfl ⟨V, f, x.obj, rfl, hV, ?_⟩
                have hd := (Bool.eq_false_or_eq_true (objOk f x.obj)).symm
                rcases hd with c4 | c4
                · rw [if_pos (hno (by rw [hkd, c4]; rfl))] at hq
                  simp -dsimp only [Vm.G, List.lookup, Nat.reduceAdd, Nat.reduceBEq, Int.reduceBNe, Int.reduceBEq, Nat.reduceLeDiff, q23, c4]
                  exact hq
                · have hk : knownL f x = true := by rw [hkd, c4]; rfl
                  simp -dsimp only [Vm.G, List.lookup, Nat.reduceAdd, Nat.reduceBEq, Int.reduceBNe, Int.reduceBEq, Nat.reduceLeDiff, q23, c4]
                  refine kept_intro ⟨l.length - (i + 1), by omega, _, le_mk [(0, .ptr V.iv 0), (5, .v (.int .i64 (sumA l))), (34, .sl 4 (l.map lnAv)), (35, .v (.int .i64 l.length)), (36, .v (.int .i64 (i + 1 : Nat)))] ?_, i + 1, by omega, rfl, hyes hk, rfl⟩
                  simp only [List.forall_mem_cons, List.not_mem_nil, false_imp_iff, implies_true, and_true, hw]
                  try simp -dsimp only [Vm.G, List.lookup, Nat.reduceAdd, Nat.reduceBEq, Int.reduceBNe, Int.reduceBEq, Nat.reduceLeDiff, q23, hw]
                  repeat' first | exact Fg.refl _ | exact Fg.nil _ _ _ (by decide) | refine And.intro ?_ ?_
              · rw [hf] at hkd
                rw [if_pos (hno (by rw [hkd]; rfl))] at hq
                simp -dsimp only [Vm.G, List.lookup, Nat.reduceAdd, Nat.reduceBEq, Int.reduceBNe, Int.reduceBEq, Nat.reduceLeDiff, q23]
                exact hq
            · have hge : ¬ i < l.length := by have := of_decide_eq_false hcc; omega
              rw [if_neg (by rw [all_yes fun j hj => hb j hj (by omega)]; decide)] at hq
              have hd := (Bool.eq_false_or_eq_true (sumA l != 0)).symm
              rcases hd with c5 | c5
              · rw [if_neg (by simpa using c5)] at hq
                simp -dsimp only [Vm.G, List.lookup, Nat.reduceAdd, Nat.reduceBEq, Int.reduceBNe, Int.reduceBEq, Nat.reduceLeDiff, q23, c5]
                exact hq
              · rw [if_pos (by simpa using c5)] at hq
                simp -dsimp only [Vm.G, List.lookup, Nat.reduceAdd, Nat.reduceBEq, Int.reduceBNe, Int.reduceBEq, Nat.reduceLeDiff, q23, c5]
                exact hq
    · have d2 := of_decide_eq_true c2
      rw [if_pos (by omega)] at hq
      simp -dsimp only [Vm.G, List.lookup, Nat.reduceAdd, Nat.reduceBEq, Int.reduceBNe, Int.reduceBEq, Nat.reduceLeDiff, q23, c2]
      exact hq
  · have d1 := of_decide_eq_true c1
    rw [if_pos (by omega)] at hq
    simp -dsimp only [Vm.G, List.lookup, Nat.reduceAdd, Nat.reduceBEq, Int.reduceBNe, Int.reduceBEq, Nat.reduceLeDiff, q23, c1]
    exact hq
def rlCheckSpec : Vm.Spec := fun args h Q => ∃ (R : RId) (f : Fun) (l : List Ln), l.length ≤ 1073741824 ∧ args = [.ptr R.iv 0, .sl 4 (l.map lnAv)] ∧ isRef h R f ∧ f.n ≤ 536870912 ∧ Q (.v (.int .i64 (checkL f l))) h
set_option maxRecDepth 20000 in
set_option maxHeartbeats 2000000 in
theorem does_rlCheck : Does Tryz.prog 24 rlCheckSpec := by
  refine does_of_awp (good_cons does_rRightL (good_cons does_rcFund (good_cons does_rcObj good_nil))) Tryz.func24 rfl (by decide +kernel) (by decide +kernel) ?_
  rintro args h Q ⟨R, f, l, hl, rfl, hR, hfn, hq⟩
  refine ⟨by simp [Tryz.f24], ?_⟩
  rw [awpFunc_some (by rfl)]
  unfold checkL at hq
  simp -dsimp only [Vm.G, List.lookup, Nat.reduceAdd, Nat.reduceBEq, Int.reduceBNe, Int.reduceBEq, Nat.reduceLeDiff, q24]
  cases c1 : decide ((l.length : Int) < 2)
  · have d1 := of_decide_eq_false c1
    simp -dsimp only [Vm.G, List.lookup, Nat.reduceAdd, Nat.reduceBEq, Int.reduceBNe, Int.reduceBEq, Nat.reduceLeDiff, q24, c1]
    cases c2 : decide ((l.length : Int) > 6)
    · have d2 := of_decide_eq_false c2
      rw [if_neg (by omega)] at hq
      simp -dsimp only [Vm.G, List.lookup, Nat.reduceAdd, Nat.reduceBEq, Int.reduceBNe, Int.reduceBEq, Nat.reduceLeDiff, q24, c2]
      refine awp_loop (fun m s h' => ∃ i : Nat, i + m = l.length ∧ h' = h ∧ (∀ j (hj : j < l.length), j < i → rightL l[j] = true) ∧ s = mk [(0, .ptr R.iv 0), (1, .sl 4 (l.map lnAv)), (5, .v (.int .i64 (sumA (l.take (i))))), (6, .v (.int .i64 (i : Nat)))])
        l.length _ (le_mk _ ?_) ⟨0, by omega, rfl, fun _ _ hj => by omega, rfl⟩ ?_
      · simp only [List.forall_mem_cons, List.not_mem_nil, false_imp_iff, implies_true, and_true]
        try simp -dsimp only [Vm.G, List.lookup, Nat.reduceAdd, Nat.reduceBEq, Int.reduceBNe, Int.reduceBEq, Nat.reduceLeDiff, q24]
        repeat' first | exact Fg.refl _ | exact Fg.nil _ _ _ (by decide) | refine And.intro ?_ ?_
      · clear c1 c2
        rintro m s h' ⟨i, hi, rfl, hb, rfl⟩
        simp -dsimp only [Vm.G, List.lookup, Nat.reduceAdd, Nat.reduceBEq, Int.reduceBNe, Int.reduceBEq, Nat.reduceLeDiff, q24]
        refine cond_intro (fun hcc => ?_) (fun hcc => ?_)
        · have hlt : i < l.length := by have := of_decide_eq_true hcc; omega
          have hw : IntKind.i64.wrap ((i : Int) + 1) = ((i + 1 : Nat) : Int) := by rw [wrap_i64 (by omega) (by omega)]; simp
          have hst := sumA_step l i hlt
          have hno := all_no (p := rightL) i hlt
          have hyes := yes_more hb hlt
          have hxe : ∃ x, l[i] = x := ⟨_, rfl⟩
          rcases hxe with ⟨x, hx⟩
          rw [hx] at hst hno hyes
          simp -dsimp only [Vm.G, List.lookup, Nat.reduceAdd, Nat.reduceBEq, Int.reduceBNe, Int.reduceBEq, Nat.reduceLeDiff, q24]
          refine idx_map lnAv l i hlt ?_
          simp only [hx, lnAv, lnCells]
          simp -dsimp only [Vm.G, List.lookup, Nat.reduceAdd, Nat.reduceBEq, Int.reduceBNe, Int.reduceBEq, Nat.reduceLeDiff, q24, AV.cells]
          refine call_one (S := askLn rightL) rfl _ GaL.rfl ⟨x, rfl, ?_⟩
          have hd := (Bool.eq_false_or_eq_true (rightL x)).symm
          rcases hd with c3 | c3
          · rw [if_pos (hno c3)] at hq
            simp -dsimp only [Vm.G, List.lookup, Nat.reduceAdd, Nat.reduceBEq, Int.reduceBNe, Int.reduceBEq, Nat.reduceLeDiff, q24, c3]
            exact hq
          · simp -dsimp only [Vm.G, List.lookup, Nat.reduceAdd, Nat.reduceBEq, Int.reduceBNe, Int.reduceBEq, Nat.reduceLeDiff, q24, c3]
            refine idx_map lnAv l i hlt ?_
            simp only [hx, lnAv, lnCells]
            simp -dsimp only [Vm.G, List.lookup, Nat.reduceAdd, Nat.reduceBEq, Int.reduceBNe, Int.reduceBEq, Nat.reduceLeDiff, q24, AV.cells]
            refine kept_intro ⟨l.length - (i + 1), by omega, _, le_mk [(0, .ptr R.iv 0), (1, .sl 4 (l.map lnAv)), (5, .v (.int .i64 (sumA (l.take (i + 1))))), (6, .v (.int .i64 (i + 1 : Nat)))] ?_, i + 1, by omega, rfl, hyes c3, rfl⟩
            simp only [List.forall_mem_cons, List.not_mem_nil, false_imp_iff, implies_true, and_true, hw, hst]
            try simp -dsimp only [Vm.G, List.lookup, Nat.reduceAdd, Nat.reduceBEq, Int.reduceBNe, Int.reduceBEq, Nat.reduceLeDiff, q24, hw, hst]
            repeat' first | exact Fg.refl _ | exact Fg.nil _ _ _ (by decide) | refine And.intro ?_ ?_
        · have hge : ¬ i < l.length := by have := of_decide_eq_false hcc; omega
          rw [if_neg (by rw [all_yes fun j hj => hb j hj (by omega)]; decide)] at hq
          simp -dsimp only [Vm.G, List.lookup, Nat.reduceAdd, Nat.reduceBEq, Int.reduceBNe, Int.reduceBEq, Nat.reduceLeDiff, q24]
          rw [List.take_of_length_le (by omega)]
          refine awp_loop (fun m s h2 => ∃ i : Nat, i + m = l.length ∧ h2 = h' ∧ (∀ j (hj : j < l.length), j < i → knownL f l[j] = true) ∧ s = mk [(0, .ptr R.iv 0), (1, .sl 4 (l.map lnAv)), (5, .v (.int .i64 (sumA l))), (7, .v (.int .i64 (i : Nat)))])
            l.length _ (le_mk _ ?_) ⟨0, by omega, rfl, fun _ _ hj => by omega, rfl⟩ ?_
          · simp only [List.forall_mem_cons, List.not_mem_nil, false_imp_iff, implies_true, and_true]
            try simp -dsimp only [Vm.G, List.lookup, Nat.reduceAdd, Nat.reduceBEq, Int.reduceBNe, Int.reduceBEq, Nat.reduceLeDiff, q24]
            repeat' first | exact Fg.refl _ | exact Fg.nil _ _ _ (by decide) | refine And.intro ?_ ?_
          · clear hi hcc hge hb
            rintro m s h2 ⟨i, hi, rfl, hb, rfl⟩
            simp -dsimp only [Vm.G, List.lookup, Nat.reduceAdd, Nat.reduceBEq, Int.reduceBNe, Int.reduceBEq, Nat.reduceLeDiff, q24]
            refine cond_intro (fun hcc => ?_) (fun hcc => ?_)
            · have hlt : i < l.length := by have := of_decide_eq_true hcc; omega
              have hw : IntKind.i64.wrap ((i : Int) + 1) = ((i + 1 : Nat) : Int) := by rw [wrap_i64 (by omega) (by omega)]; simp
              have hno := all_no (p := knownL f) i hlt
              have hyes := yes_more hb hlt
              have hxe : ∃ x, l[i] = x := ⟨_, rfl⟩
              rcases hxe with ⟨x, hx⟩
              rw [hx] at hno hyes
              have hkd : knownL f x = ((f (fundK x.fund)).isSome && objOk f x.obj) := rfl
              simp -dsimp only [Vm.G, List.lookup, Nat.reduceAdd, Nat.reduceBEq, Int.reduceBNe, Int.reduceBEq, Nat.reduceLeDiff, q24]
              refine idx_map lnAv l i hlt ?_
              simp only [hx, lnAv, lnCells]
              simp -dsimp only [Vm.G, List.lookup, Nat.reduceAdd, Nat.reduceBEq, Int.reduceBNe, Int.reduceBEq, Nat.reduceLeDiff, q24, AV.cells]
              refine call_one (S := rcFundSpec) rfl _ GaL.rfl ⟨R, f, x.fund, rfl, hR, hfn, fun q hf => ?_, fun hf => ?_⟩
              · rw [hf] at hkd
                simp -dsimp only [Vm.G, List.lookup, Nat.reduceAdd, Nat.reduceBEq, Int.reduceBNe, Int.reduceBEq, Nat.reduceLeDiff, q24]
                refine idx_map lnAv l i hlt ?_
                simp only [hx, lnAv, lnCells]
                simp -dsimp only [Vm.G, List.lookup, Nat.reduceAdd, Nat.reduceBEq, Int.reduceBNe, Int.reduceBEq, Nat.reduceLeDiff, q24, AV.cells]
                refine call_one (S := rcObjSpec) rfl _ GaL.rfl ⟨R, f, x.obj, rfl, hR, hfn, ?_⟩
                have hd := (Bool.eq_false_or_eq_true (objOk f x.obj)).symm
                rcases hd with c4 | c4
                · rw [if_pos (hno (by rw [hkd, c4]; rfl))] at hq
                  simp -dsimp only [Vm.G, List.lookup, Nat.reduceAdd, Nat.reduceBEq, Int.reduceBNe, Int.reduceBEq, Nat.reduceLeDiff, q24, c4]
                  exact hq
                · have hk : knownL f x = true := by rw [hkd, c4]; rfl
                  simp -dsimp only [Vm.G, List.lookup, Nat.reduceAdd, Nat.reduceBEq, Int.reduceBNe, Int.reduceBEq, Nat.reduceLeDiff, q24, c4]
                  refine kept_intro ⟨l.length - (i + 1), by omega, _, le_mk [(0, .ptr R.iv 0), (1, .sl 4 (l.map lnAv)), (5, .v (.int .i64 (sumA l))), (7, .v (.int .i64 (i + 1 : Nat)))] ?_, i + 1, by omega, rfl, hyes hk, rfl⟩
                  simp only [List.forall_mem_cons, List.not_mem_nil, false_imp_iff, implies_true, and_true, hw]
                  try simp -dsimp only [Vm.G, List.lookup, Nat.reduceAdd, Nat.reduceBEq, Int.reduceBNe, Int.reduceBEq, Nat.reduceLeDiff, q24, hw]
                  repeat' first | exact Fg.refl _ | exact Fg.nil _ _ _ (by decide) | refine And.intro ?_ ?_
              · rw [hf] at hkd
                rw [if_pos (hno (by rw [hkd]; rfl))] at hq
                simp -dsimp only [Vm.G, List.lookup, Nat.reduceAdd, Nat.reduceBEq, Int.reduceBNe, Int.reduceBEq, Nat.reduceLeDiff, q24]
                exact hq
            · have hge : ¬ i < l.length := by have := of_decide_eq_false hcc; omega
              rw [if_neg (by rw [all_yes fun j hj => hb j hj (by omega)]; decide)] at hq
              have hd := (Bool.eq_false_or_eq_true (sumA l != 0)).symm
              rcases hd with c5 | c5
              · rw [if_neg (by simpa using c5)] at hq
                simp -dsimp only [Vm.G, List.lookup, Nat.reduceAdd, Nat.reduceBEq, Int.reduceBNe, Int.reduceBEq, Nat.reduceLeDiff, q24, c5]
                exact hq
              · rw [if_pos (by simpa using c5)] at hq
                simp -dsimp only [Vm.G, List.lookup, Nat.reduceAdd, Nat.reduceBEq, Int.reduceBNe, Int.reduceBEq, Nat.reduceLeDiff, q24, c5]
                exact hq
    · have d2 := of_decide_eq_true c2
      rw [if_pos (by omega)] at hq
      simp -dsimp only [Vm.G, List.lookup, Nat.reduceAdd, Nat.reduceBEq, Int.reduceBNe, Int.reduceBEq, Nat.reduceLeDiff, q24, c2]
      exact hq
  · have d1 := of_decide_eq_true c1
    rw [if_pos (by omega)] at hq
    simp -dsimp only [Vm.G, List.lookup, Nat.reduceAdd, Nat.reduceBEq, Int.reduceBNe, Int.reduceBEq, Nat.reduceLeDiff, q24, c1]
    exact hq
end Go.Proofs.Lx
/- Lines in a row that several may write: lines.Funds, Equal, Check of it; law23.awake. -/
set_option linter.unusedSimpArgs false
set_option linter.unusedVariables false
namespace Go.Proofs.Lx
open Go.Vm
attribute [local irreducible] awpArr awpBin awpMake awpAppend awpCvX awpStrOf awpBinX awpSlice awpBS awpStore awpAlloc awpCopy awpIndex awpDraw awpIdxX awpFa awpField awpLookup awpUpdate awpDelete awpClear awpRange awpNext awpEntry awpBuild awpClearS awpIdxL awpTree appB awpIdxO eltA treeA
/-- A row of lines. -/
def lnRow (h : Heap) (id : Nat) (l : List Ln) : Prop := ∃ e m, h[id]? = some (.row e m (flat (l.map lnAv)))
theorem ln_cells {l : List Ln} : ∀ x ∈ l.map lnAv, x.cells.length = 4 := fun x hx => by obtain ⟨p, -, rfl⟩ := List.mem_map.1 hx; rfl
theorem ln_elem (l : List Ln) (i : Nat) (hi : i < l.length) : ((flat (l.map lnAv)).drop (i * 4)).take 4 = lnCells l[i] ∧ 4 ≤ ((flat (l.map lnAv)).drop (i * 4)).length := by
  have h := row_elem (sz := 4) (xs := l.map lnAv) (cs := flat (l.map lnAv)) ln_cells (by rw [List.take_of_length_le (by rw [flat_length ln_cells]; exact Nat.le_refl _)]) i (by rw [List.length_map]; exact hi)
  rw [List.getElem_map] at h
  exact h
def fundsOSpec : Vm.Spec := fun args h Q => ∃ (l : List Ln) (id c : Nat), l.length ≤ 1073741824 ∧ args = [.osl id 0 l.length c] ∧ lnRow h id l ∧ ∀ r h', IsFunds l r → Same h h' [] → Q (.own true 45 4 (r.map lnAv)) h'
set_option maxRecDepth 20000 in
set_option maxHeartbeats 1000000 in
theorem does_fundsO : Does Tryz.prog 26 fundsOSpec := by
  refine does_of_awp (good_cons does_sortLine good_nil) Tryz.func26 rfl (by decide +kernel) (by decide +kernel) ?_
  rintro args h Q ⟨l, id, c, hl, rfl, ⟨re, rm, hh⟩, hq⟩
  refine ⟨by simp [Tryz.f26], ?_⟩
  rw [awpFunc_some (by rfl)]
  simp -dsimp only [Vm.G, List.lookup, Nat.reduceAdd, Nat.reduceBEq, Int.reduceBNe, Int.reduceBEq, Nat.reduceLeDiff, q26]
  refine awp_loop (fun m s h' => ∃ (i : Nat) (es : List Ent) (clk : Nat), i + m = l.length ∧ SumE (l.take i) es clk ∧ h' = h ++ [.map es clk] ∧ s = mk [(3, .mp h.length), (10, .osl id 0 l.length c), (11, .v (.int .i64 l.length)), (12, .v (.int .i64 (i : Nat)))])
    l.length _ (le_mk _ ?_) ⟨0, [], 0, by omega, ⟨by simp, ⟨⟨.nil, .nil⟩, by simp⟩, by simp, fun n => ⟨fun ⟨y, hy, _⟩ => by simp at hy, fun _ => rfl⟩⟩, rfl, rfl⟩ ?_
  · simp only [List.forall_mem_cons, List.not_mem_nil, false_imp_iff, implies_true, and_true]
    try simp -dsimp only [Vm.G, List.lookup, Nat.reduceAdd, Nat.reduceBEq, Int.reduceBNe, Int.reduceBEq, Nat.reduceLeDiff, q26]
    repeat' first | exact Fg.refl _ | exact Fg.nil _ _ _ (by decide) | refine And.intro ?_ ?_
  · rintro m s h' ⟨i, es, clk, hi, hE, rfl, rfl⟩
    simp -dsimp only [Vm.G, List.lookup, Nat.reduceAdd, Nat.reduceBEq, Int.reduceBNe, Int.reduceBEq, Nat.reduceLeDiff, q26]
    refine cond_intro (fun hcc => ?_) (fun hcc => ?_)
    · have hlt : i < l.length := by have := of_decide_eq_true hcc; omega
      have hw : IntKind.i64.wrap ((i : Int) + 1) = ((i + 1 : Nat) : Int) := by rw [wrap_i64 (by omega) (by omega)]; simp
      have hst := hE.step l[i]
      rw [← List.take_succ_eq_append_getElem hlt] at hst
      obtain ⟨x, hx⟩ : ∃ x, l[i] = x := ⟨_, rfl⟩
      have hel := hE.2.2.2 x.fund
      rw [hx] at hst
      simp -dsimp only [Vm.G, List.lookup, Nat.reduceAdd, Nat.reduceBEq, Int.reduceBNe, Int.reduceBEq, Nat.reduceLeDiff, q26]
      have hre := ln_elem l i hlt
      rcases hre with ⟨r1, r2⟩
      rw [hx] at r1
      simp only [lnCells] at r1
      have hg := heap_get [AObj.map es clk] hh
      refine idxL_intro (by omega) (by omega) ?_
      simp -dsimp only [Vm.G, List.lookup, Nat.reduceAdd, Nat.reduceBEq, Int.reduceBNe, Int.reduceBEq, Nat.reduceLeDiff, q26, hg, Int.toNat_natCast, r1, r2]
      have fin : ∀ a : Int, a = sumF (l.take i) x.fund → SumE (l.take (i + 1)) (mput (intK x.fund) (.v (.int .i64 (IntKind.i64.wrap (a + x.amt)))) clk es) (mclk (intK x.fund) es clk) := fun a ha => by rw [ha]; exact hst
      refine lookup_intro mt147 z3 es clk (heap_last _ _) rfl (keys_int hE.1) (fun e he => ?_) (fun he => ?_)
      · have he : mget (intK x.fund) es = some e := he
        have hex : ∃ y ∈ l.take i, y.fund = x.fund := Classical.byContradiction fun hc => by rw [hel.2 hc] at he; cases he
        have hv := hel.1 hex
        rw [he] at hv
        have hv : e.val = .v (.int .i64 (sumF (l.take i) x.fund)) := by simpa using hv
        have f2 := fin _ rfl
        simp -dsimp only [Vm.G, List.lookup, Nat.reduceAdd, Nat.reduceBEq, Int.reduceBNe, Int.reduceBEq, Nat.reduceLeDiff, q26, hv, lookRes, cst, Bool.false_eq_true, if_false]
        refine update_intro mt147 es clk (heap_last _ _) (kv := .int .i64 x.fund) (by rfl) (keys_int hE.1) ?_
        simp -dsimp only [Vm.G, List.lookup, Nat.reduceAdd, Nat.reduceBEq, Int.reduceBNe, Int.reduceBEq, Nat.reduceLeDiff, q26, heap_setLast]
        refine kept_intro ⟨l.length - (i + 1), by omega, _, le_mk [(3, .mp h.length), (10, .osl id 0 l.length c), (11, .v (.int .i64 l.length)), (12, .v (.int .i64 (i + 1 : Nat)))] ?_, i + 1, _, _, by omega, f2, rfl, rfl⟩
        simp only [List.forall_mem_cons, List.not_mem_nil, false_imp_iff, implies_true, and_true, hw]
        try simp -dsimp only [Vm.G, List.lookup, Nat.reduceAdd, Nat.reduceBEq, Int.reduceBNe, Int.reduceBEq, Nat.reduceLeDiff, q26, hw]
        repeat' first | exact Fg.refl _ | exact Fg.nil _ _ _ (by decide) | refine And.intro ?_ ?_
      · have hne : ¬ ∃ y ∈ l.take i, y.fund = x.fund := fun hc => by have := hel.1 hc; rw [show mget (intK x.fund) es = none from he] at this; cases this
        have f2 := fin 0 (sumF_none hne).symm
        have k0 : ∀ v b, lookRes false v b = v := fun _ _ => rfl
        simp -dsimp only [Vm.G, List.lookup, Nat.reduceAdd, Nat.reduceBEq, Int.reduceBNe, Int.reduceBEq, Nat.reduceLeDiff, q26, k0]
        refine update_intro mt147 es clk (heap_last _ _) (kv := .int .i64 x.fund) (by rfl) (keys_int hE.1) ?_
        simp -dsimp only [Vm.G, List.lookup, Nat.reduceAdd, Nat.reduceBEq, Int.reduceBNe, Int.reduceBEq, Nat.reduceLeDiff, q26, heap_setLast]
        refine kept_intro ⟨l.length - (i + 1), by omega, _, le_mk [(3, .mp h.length), (10, .osl id 0 l.length c), (11, .v (.int .i64 l.length)), (12, .v (.int .i64 (i + 1 : Nat)))] ?_, i + 1, _, _, by omega, f2, rfl, rfl⟩
        simp only [List.forall_mem_cons, List.not_mem_nil, false_imp_iff, implies_true, and_true, hw]
        try simp -dsimp only [Vm.G, List.lookup, Nat.reduceAdd, Nat.reduceBEq, Int.reduceBNe, Int.reduceBEq, Nat.reduceLeDiff, q26, hw]
        repeat' first | exact Fg.refl _ | exact Fg.nil _ _ _ (by decide) | refine And.intro ?_ ?_
    · have hge : ¬ i < l.length := by have := of_decide_eq_false hcc; omega
      rw [List.take_of_length_le (by omega)] at hE
      have g0 := heap_last h (AObj.map es clk)
      have hsame := Same.more h [AObj.map es clk]
      generalize h ++ [AObj.map es clk] = hh at g0 hsame ⊢
      simp -dsimp only [Vm.G, List.lookup, Nat.reduceAdd, Nat.reduceBEq, Int.reduceBNe, Int.reduceBEq, Nat.reduceLeDiff, q26]
      refine range_intro mt147 es clk g0 ?_
      simp -dsimp only [Vm.G, List.lookup, Nat.reduceAdd, Nat.reduceBEq, Int.reduceBNe, Int.reduceBEq, Nat.reduceLeDiff, q26]
      refine awp_loop (fun m s h' => ∃ done : List Ent, m = (leftE es (done.map (·.born))).length ∧ done.length + m ≤ es.length ∧ h' = hh ∧ (∀ d ∈ done, d ∈ es) ∧ (done.map (·.born)).Nodup ∧ s = mk [(6, .own true 45 4 (((done).map lnE).map lnAv)), (25, .iter h.length clk ((done).map (·.born)) clk)])
        es.length _ (le_mk _ ?_) ⟨[], (congrArg List.length (List.filter_eq_self.2 fun _ _ => rfl)).symm, by simp, rfl, by simp, by simp, rfl⟩ ?_
      · simp only [List.forall_mem_cons, List.not_mem_nil, false_imp_iff, implies_true, and_true]
        try simp -dsimp only [Vm.G, List.lookup, Nat.reduceAdd, Nat.reduceBEq, Int.reduceBNe, Int.reduceBEq, Nat.reduceLeDiff, q26]
        repeat' first | exact Fg.refl _ | exact Fg.nil _ _ _ (by decide) | refine And.intro ?_ ?_
      · clear hi hcc hge
        rintro m s h' ⟨done, rfl, hlen, rfl, hd, hdn, rfl⟩
        simp -dsimp only [Vm.G, List.lookup, Nat.reduceAdd, Nat.reduceBEq, Int.reduceBNe, Int.reduceBEq, Nat.reduceLeDiff, q26]
        refine next_intro es clk g0 (fun e he => hE.2.1.2 e he) (Nat.le_refl _) (fun hlf => ?_) (fun e he => ?_)
        · have hD : done.Perm es := seen_all hE.2.1.1.1 hd hdn hlf
          have hnd := hE.nodup hD
          have hel := hE.2.2.1
          have hdl := hD.length_eq
          simp -dsimp only [Vm.G, List.lookup, Nat.reduceAdd, Nat.reduceBEq, Int.reduceBNe, Int.reduceBEq, Nat.reduceLeDiff, q26]
          refine call_in _ _ _ ?_
          simp -dsimp only [Vm.G, List.lookup, Nat.reduceAdd, Nat.reduceBEq, Int.reduceBNe, Int.reduceBEq, Nat.reduceLeDiff, q26, callI_eq, ownSl_own, ownSl_alias]
          refine callI_tup (S := orS sortLnSpec sortLnNilSpec) (fun xs' => ∃ l' : List Ln, xs' = l'.map lnAv ∧ l'.Perm (done.map lnE) ∧ l'.Pairwise (fun a b => cmpI a.fund b.fund < 0)) rfl
            (fun xs' hx => ?_) (fun hx => ⟨?_, fun Q' hq' => .inr ⟨_, rfl, hq'⟩⟩) (fun c hc Q' hq' => .inl ⟨done.map lnE, _, c, 45, by rw [List.length_map], rfl, hnd, by rw [List.length_map]; omega, by rw [List.length_map] at hc; exact hc, fun l' hp hs => hq' _ _ ⟨l', rfl, hp, hs⟩ ?_⟩) (fun xs' hx => ?_)
          · obtain ⟨l', rfl, hp, hs⟩ := hx
            exact ⟨fun x hx => (hp.map lnAv).mem_iff.1 hx, by rw [List.length_map, List.length_map, hp.length_eq]⟩
          · have hnil : done.map lnE = [] := List.map_eq_nil_iff.1 hx
            exact ⟨[], rfl, by rw [hnil], .nil⟩
          · rw [List.take_of_length_le]
            rw [flat_length (sz := 4) (fun x hx => by obtain ⟨p, -, rfl⟩ := List.mem_map.1 hx; rfl)]
            exact Nat.le_refl _
          · obtain ⟨l', rfl, hp, hs⟩ := hx
            simp -dsimp only [Vm.G, List.lookup, Nat.reduceAdd, Nat.reduceBEq, Int.reduceBNe, Int.reduceBEq, Nat.reduceLeDiff, q26]
            exact hq l' _ (hE.funds hD hp hs) hsame
        · obtain ⟨hem, heb⟩ := left_mem he
          obtain ⟨hk, hv, hex⟩ := hE.val hem
          obtain ⟨hd2, hdn2⟩ := done_more he hd hdn
          have hless := left_less he
          have emap : (done ++ [e]).map (·.born) = done.map (·.born) ++ [e.born] := by simp
          have hln : lnE e = ⟨nOf e, 0, 0, sumF l (nOf e)⟩ := by unfold lnE mOf; rw [hv]
          have hlnn := hE.2.2.1
          simp -dsimp only [Vm.G, List.lookup, Nat.reduceAdd, Nat.reduceBEq, Int.reduceBNe, Int.reduceBEq, Nat.reduceLeDiff, q26]
          refine entry_intro es clk e g0 (find_born hE.2.1.1.1 hem) ?_
          simp only [hk, hv, intK]
          simp -dsimp only [Vm.G, List.lookup, Nat.reduceAdd, Nat.reduceBEq, Int.reduceBNe, Int.reduceBEq, Nat.reduceLeDiff, q26]
          refine bs_intro zr45 (by decide) (by decide) rfl rfl (by simp [solid, AV.cells]) ?_
          simp -dsimp only [Vm.G, List.lookup, Nat.reduceAdd, Nat.reduceBEq, Int.reduceBNe, Int.reduceBEq, Nat.reduceLeDiff, q26]
          refine app_sl Tryz.underlying36 (by simp [AV.cells]) (by simp only [List.length_map, List.length_cons, List.length_nil]; omega) ?_
          simp -dsimp only [Vm.G, List.lookup, Nat.reduceAdd, Nat.reduceBEq, Int.reduceBNe, Int.reduceBEq, Nat.reduceLeDiff, q26]
          refine kept_intro ⟨_, hless, _, le_mk [(6, .own true 45 4 (((done ++ [e]).map lnE).map lnAv)), (25, .iter h.length clk ((done ++ [e]).map (·.born)) clk)] ?_, done ++ [e], by rw [emap], by rw [List.length_append]; simp only [List.length_cons, List.length_nil]; omega, rfl, hd2, hdn2, rfl⟩
          simp only [List.forall_mem_cons, List.not_mem_nil, false_imp_iff, implies_true, and_true, List.map_append, List.map_cons, List.map_nil, hln, lnAv, lnCells]
          try simp -dsimp only [Vm.G, List.lookup, Nat.reduceAdd, Nat.reduceBEq, Int.reduceBNe, Int.reduceBEq, Nat.reduceLeDiff, q26, List.map_append, List.map_cons, List.map_nil, hln, lnAv, lnCells]
          repeat' first | exact Fg.refl _ | exact Fg.nil _ _ _ (by decide) | refine And.intro ?_ ?_
def eqFundsOSpec : Vm.Spec := fun args h Q => ∃ (l : List Ln) (id c : Nat), l.length ≤ 1073741824 ∧ args = [.osl id 0 l.length c] ∧ lnRow h id l ∧ ∀ r h', IsFunds l r → Same h h' [] → Q (.v (.bool (!r.any lineNz))) h'
theorem does_eqFundsO : Does Tryz.prog 28 eqFundsOSpec := by
  refine does_of_awp (good_cons does_fundsO (good_cons (does_hasLn good_nzT) good_nil)) Tryz.func28 rfl (by decide +kernel) (by decide +kernel) ?_
  rintro args h Q ⟨l, id, c, hl, rfl, hr, hq⟩
  refine ⟨by simp [Tryz.f28], ?_⟩
  rw [awpFunc_some (by rfl)]
  simp -dsimp only [Vm.G, List.lookup, Nat.reduceAdd, Nat.reduceBEq, Int.reduceBNe, Int.reduceBEq, Nat.reduceLeDiff, q28]
  refine call_one (S := fundsOSpec) rfl _ GaL.rfl ⟨l, id, c, hl, rfl, hr, fun r h1 hf hs => ?_⟩
  have hrl := hf.len
  simp -dsimp only [Vm.G, List.lookup, Nat.reduceAdd, Nat.reduceBEq, Int.reduceBNe, Int.reduceBEq, Nat.reduceLeDiff, q28]
  refine call_one (S := hasSpecLn nzT) rfl _ GaL.rfl ⟨103, lineNz, r, rfl, by omega, rfl, ?_⟩
  simp -dsimp only [Vm.G, List.lookup, Nat.reduceAdd, Nat.reduceBEq, Int.reduceBNe, Int.reduceBEq, Nat.reduceLeDiff, q28]
  exact hq r h1 hf hs
def lCheckOSpec : Vm.Spec := fun args h Q => ∃ (V : VId) (f : Fun) (l : List Ln) (id c : Nat), l.length ≤ 1073741824 ∧ args = [.ptr V.iv 0, .osl id 0 l.length c] ∧ lnRow h id l ∧ isView h V f ∧ Q (.v (.int .i64 (checkL f l))) h
set_option maxRecDepth 20000 in
set_option maxHeartbeats 2000000 in
theorem does_lCheckO : Does Tryz.prog 23 lCheckOSpec := by
  refine does_of_awp (good_cons does_rightL (good_cons does_cFund (good_cons does_cObj good_nil))) Tryz.func23 rfl (by decide +kernel) (by decide +kernel) ?_
  rintro args h Q ⟨V, f, l, id, c, hl, rfl, ⟨re, rm, hh⟩, hV, hq⟩
  refine ⟨by simp [Tryz.f23], ?_⟩
  rw [awpFunc_some (by rfl)]
  unfold checkL at hq
  simp -dsimp only [Vm.G, List.lookup, Nat.reduceAdd, Nat.reduceBEq, Int.reduceBNe, Int.reduceBEq, Nat.reduceLeDiff, q23]
  cases c1 : decide ((l.length : Int) < 2)
  · have d1 := of_decide_eq_false c1
    simp -dsimp only [Vm.G, List.lookup, Nat.reduceAdd, Nat.reduceBEq, Int.reduceBNe, Int.reduceBEq, Nat.reduceLeDiff, q23, c1]
    cases c2 : decide ((l.length : Int) > 6)
    · have d2 := of_decide_eq_false c2
      rw [if_neg (by omega)] at hq
      simp -dsimp only [Vm.G, List.lookup, Nat.reduceAdd, Nat.reduceBEq, Int.reduceBNe, Int.reduceBEq, Nat.reduceLeDiff, q23, c2]
      refine awp_loop (fun m s h' => ∃ i : Nat, i + m = l.length ∧ h' = h ∧ (∀ j (hj : j < l.length), j < i → rightL l[j] = true) ∧ s = mk [(0, .ptr V.iv 0), (1, .osl id 0 l.length c), (5, .v (.int .i64 (sumA (l.take (i))))), (20, .osl id 0 l.length c), (21, .v (.int .i64 l.length)), (22, .v (.int .i64 (i : Nat)))])
        l.length _ (le_mk _ ?_) ⟨0, by omega, rfl, fun _ _ hj => by omega, rfl⟩ ?_
      · simp only [List.forall_mem_cons, List.not_mem_nil, false_imp_iff, implies_true, and_true]
        try simp -dsimp only [Vm.G, List.lookup, Nat.reduceAdd, Nat.reduceBEq, Int.reduceBNe, Int.reduceBEq, Nat.reduceLeDiff, q23]
        repeat' first | exact Fg.refl _ | exact Fg.nil _ _ _ (by decide) | refine And.intro ?_ ?_
      · clear c1 c2
        rintro m s h' ⟨i, hi, rfl, hb, rfl⟩
        simp -dsimp only [Vm.G, List.lookup, Nat.reduceAdd, Nat.reduceBEq, Int.reduceBNe, Int.reduceBEq, Nat.reduceLeDiff, q23]
        refine cond_intro (fun hcc => ?_) (fun hcc => ?_)
        · have hlt : i < l.length := by have := of_decide_eq_true hcc; omega
          have hw : IntKind.i64.wrap ((i : Int) + 1) = ((i + 1 : Nat) : Int) := by rw [wrap_i64 (by omega) (by omega)]; simp
          have hst := sumA_step l i hlt
          have hno := all_no (p := rightL) i hlt
          have hyes := yes_more hb hlt
          have hxe : ∃ x, l[i] = x := ⟨_, rfl⟩
          rcases hxe with ⟨x, hx⟩
          rw [hx] at hst hno hyes
          simp -dsimp only [Vm.G, List.lookup, Nat.reduceAdd, Nat.reduceBEq, Int.reduceBNe, Int.reduceBEq, Nat.reduceLeDiff, q23]
          have hre := ln_elem l i hlt
          rcases hre with ⟨r1, r2⟩
          rw [hx] at r1
          simp only [lnCells] at r1
          refine idxL_intro (by omega) (by omega) ?_
          simp -dsimp only [Vm.G, List.lookup, Nat.reduceAdd, Nat.reduceBEq, Int.reduceBNe, Int.reduceBEq, Nat.reduceLeDiff, q23, hh, Int.toNat_natCast, r1, r2]
          refine call_one (S := askLn rightL) rfl _ GaL.rfl ⟨x, rfl, ?_⟩
          have hd := (Bool.eq_false_or_eq_true (rightL x)).symm
          rcases hd with c3 | c3
          · rw [if_pos (hno c3)] at hq
            simp -dsimp only [Vm.G, List.lookup, Nat.reduceAdd, Nat.reduceBEq, Int.reduceBNe, Int.reduceBEq, Nat.reduceLeDiff, q23, c3]
            exact hq
          · simp -dsimp only [Vm.G, List.lookup, Nat.reduceAdd, Nat.reduceBEq, Int.reduceBNe, Int.reduceBEq, Nat.reduceLeDiff, q23, c3]
            refine kept_intro ⟨l.length - (i + 1), by omega, _, le_mk [(0, .ptr V.iv 0), (1, .osl id 0 l.length c), (5, .v (.int .i64 (sumA (l.take (i + 1))))), (20, .osl id 0 l.length c), (21, .v (.int .i64 l.length)), (22, .v (.int .i64 (i + 1 : Nat)))] ?_, i + 1, by omega, rfl, hyes c3, rfl⟩
            simp only [List.forall_mem_cons, List.not_mem_nil, false_imp_iff, implies_true, and_true, hw, hst]
            try simp -dsimp only [Vm.G, List.lookup, Nat.reduceAdd, Nat.reduceBEq, Int.reduceBNe, Int.reduceBEq, Nat.reduceLeDiff, q23, hw, hst]
            repeat' first | exact Fg.refl _ | exact Fg.nil _ _ _ (by decide) | refine And.intro ?_ ?_
        · have hge : ¬ i < l.length := by have := of_decide_eq_false hcc; omega
          rw [if_neg (by rw [all_yes fun j hj => hb j hj (by omega)]; decide)] at hq
          simp -dsimp only [Vm.G, List.lookup, Nat.reduceAdd, Nat.reduceBEq, Int.reduceBNe, Int.reduceBEq, Nat.reduceLeDiff, q23]
          rw [List.take_of_length_le (by omega)]
          refine awp_loop (fun m s h2 => ∃ i : Nat, i + m = l.length ∧ h2 = h' ∧ (∀ j (hj : j < l.length), j < i → knownL f l[j] = true) ∧ s = mk [(0, .ptr V.iv 0), (5, .v (.int .i64 (sumA l))), (34, .osl id 0 l.length c), (35, .v (.int .i64 l.length)), (36, .v (.int .i64 (i : Nat)))])
            l.length _ (le_mk _ ?_) ⟨0, by omega, rfl, fun _ _ hj => by omega, rfl⟩ ?_
          · simp only [List.forall_mem_cons, List.not_mem_nil, false_imp_iff, implies_true, and_true]
            try simp -dsimp only [Vm.G, List.lookup, Nat.reduceAdd, Nat.reduceBEq, Int.reduceBNe, Int.reduceBEq, Nat.reduceLeDiff, q23]
            repeat' first | exact Fg.refl _ | exact Fg.nil _ _ _ (by decide) | refine And.intro ?_ ?_
          · clear hi hcc hge hb
            rintro m s h2 ⟨i, hi, rfl, hb, rfl⟩
            simp -dsimp only [Vm.G, List.lookup, Nat.reduceAdd, Nat.reduceBEq, Int.reduceBNe, Int.reduceBEq, Nat.reduceLeDiff, q23]
            refine cond_intro (fun hcc => ?_) (fun hcc => ?_)
            · have hlt : i < l.length := by have := of_decide_eq_true hcc; omega
              have hw : IntKind.i64.wrap ((i : Int) + 1) = ((i + 1 : Nat) : Int) := by rw [wrap_i64 (by omega) (by omega)]; simp
              have hno := all_no (p := knownL f) i hlt
              have hyes := yes_more hb hlt
              have hxe : ∃ x, l[i] = x := ⟨_, rfl⟩
              rcases hxe with ⟨x, hx⟩
              rw [hx] at hno hyes
              have hkd : knownL f x = ((f (fundK x.fund)).isSome && objOk f x.obj) := rfl
              simp -dsimp only [Vm.G, List.lookup, Nat.reduceAdd, Nat.reduceBEq, Int.reduceBNe, Int.reduceBEq, Nat.reduceLeDiff, q23]
              have hre := ln_elem l i hlt
              rcases hre with ⟨r1, r2⟩
              rw [hx] at r1
              simp only [lnCells] at r1
              refine idxL_intro (by omega) (by omega) ?_
              simp -dsimp only [Vm.G, List.lookup, Nat.reduceAdd, Nat.reduceBEq, Int.reduceBNe, Int.reduceBEq, Nat.reduceLeDiff, q23, hh, Int.toNat_natCast, r1, r2]
              refine call_one (S := cFundSpec) rfl _ GaL.rfl ⟨V, f, x.fund, rfl, hV, fun q hf => ?_, fun hf => ?_⟩
              · rw [hf] at hkd
                simp -dsimp only [Vm.G, List.lookup, Nat.reduceAdd, Nat.reduceBEq, Int.reduceBNe, Int.reduceBEq, Nat.reduceLeDiff, q23]
                refine call_one (S := cObjSpec) rfl _ GaL.rfl ⟨V, f, x.obj, rfl, hV, ?_⟩
                have hd := (Bool.eq_false_or_eq_true (objOk f x.obj)).symm
                rcases hd with c4 | c4
                · rw [if_pos (hno (by rw [hkd, c4]; rfl))] at hq
                  simp -dsimp only [Vm.G, List.lookup, Nat.reduceAdd, Nat.reduceBEq, Int.reduceBNe, Int.reduceBEq, Nat.reduceLeDiff, q23, c4]
                  exact hq
                · have hk : knownL f x = true := by rw [hkd, c4]; rfl
                  simp -dsimp only [Vm.G, List.lookup, Nat.reduceAdd, Nat.reduceBEq, Int.reduceBNe, Int.reduceBEq, Nat.reduceLeDiff, q23, c4]
                  refine kept_intro ⟨l.length - (i + 1), by omega, _, le_mk [(0, .ptr V.iv 0), (5, .v (.int .i64 (sumA l))), (34, .osl id 0 l.length c), (35, .v (.int .i64 l.length)), (36, .v (.int .i64 (i + 1 : Nat)))] ?_, i + 1, by omega, rfl, hyes hk, rfl⟩
                  simp only [List.forall_mem_cons, List.not_mem_nil, false_imp_iff, implies_true, and_true, hw]
                  try simp -dsimp only [Vm.G, List.lookup, Nat.reduceAdd, Nat.reduceBEq, Int.reduceBNe, Int.reduceBEq, Nat.reduceLeDiff, q23, hw]
                  repeat' first | exact Fg.refl _ | exact Fg.nil _ _ _ (by decide) | refine And.intro ?_ ?_
              · rw [hf] at hkd
                rw [if_pos (hno (by rw [hkd]; rfl))] at hq
                simp -dsimp only [Vm.G, List.lookup, Nat.reduceAdd, Nat.reduceBEq, Int.reduceBNe, Int.reduceBEq, Nat.reduceLeDiff, q23]
                exact hq
            · have hge : ¬ i < l.length := by have := of_decide_eq_false hcc; omega
              rw [if_neg (by rw [all_yes fun j hj => hb j hj (by omega)]; decide)] at hq
              have hd := (Bool.eq_false_or_eq_true (sumA l != 0)).symm
              rcases hd with c5 | c5
              · rw [if_neg (by simpa using c5)] at hq
                simp -dsimp only [Vm.G, List.lookup, Nat.reduceAdd, Nat.reduceBEq, Int.reduceBNe, Int.reduceBEq, Nat.reduceLeDiff, q23, c5]
                exact hq
              · rw [if_pos (by simpa using c5)] at hq
                simp -dsimp only [Vm.G, List.lookup, Nat.reduceAdd, Nat.reduceBEq, Int.reduceBNe, Int.reduceBEq, Nat.reduceLeDiff, q23, c5]
                exact hq
    · have d2 := of_decide_eq_true c2
      rw [if_pos (by omega)] at hq
      simp -dsimp only [Vm.G, List.lookup, Nat.reduceAdd, Nat.reduceBEq, Int.reduceBNe, Int.reduceBEq, Nat.reduceLeDiff, q23, c2]
      exact hq
  · have d1 := of_decide_eq_true c1
    rw [if_pos (by omega)] at hq
    simp -dsimp only [Vm.G, List.lookup, Nat.reduceAdd, Nat.reduceBEq, Int.reduceBNe, Int.reduceBEq, Nat.reduceLeDiff, q23, c1]
    exact hq
end Go.Proofs.Lx
/- The law TreeTells. -/
set_option linter.unusedSimpArgs false
set_option linter.unusedVariables false
namespace Go.Proofs.Lx
open Go.Vm
attribute [local irreducible] awpArr awpBin awpMake awpAppend awpCvX awpStrOf awpBinX awpSlice awpBS awpStore awpAlloc awpCopy awpIndex awpDraw awpIdxX awpFa awpField awpLookup awpUpdate awpDelete awpClear awpRange awpNext awpEntry awpBuild awpClearS awpIdxL awpTree appB awpIdxO eltA treeA
theorem bool_eql {a b : Bool} {KV : Value → Prop} : awpBin Tryz.prog .eql 4 (.v (.bool a)) (.v (.bool b)) KV = KV (.bool (a == b)) := by simp [awpBin, Tryz.underlying4]
end Go.Proofs.Lx
/- The law LinesCheck. -/
set_option linter.unusedSimpArgs false
set_option linter.unusedVariables false
namespace Go.Proofs.Lx
open Go.Vm
attribute [local irreducible] awpArr awpBin awpMake awpAppend awpCvX awpStrOf awpBinX awpSlice awpBS awpStore awpAlloc awpCopy awpIndex awpDraw awpIdxX awpFa awpField awpLookup awpUpdate awpDelete awpClear awpRange awpNext awpEntry awpBuild awpClearS awpIdxL awpTree appB awpIdxO eltA treeA
def lfA : Fun := upd noF (fundK 100) (some [97])
theorem lf_new : newFund noF 100 [97] = (lfA, 0) := by
  unfold newFund
  rw [if_pos ⟨by decide, by decide⟩, if_neg (by intro h; exact h rfl), if_neg ?_]
  · rfl
  · rintro ⟨l, hl, hn⟩
    have : l = [] := by
      cases l with
      | nil => rfl
      | cons p r => have := ((hl.2 p.1 p.2).1 (List.mem_cons_self ..)).1; cases this
    subst this
    simp at hn
def lnA : Ln := ⟨100, 1010, 0, 5⟩
def lnB : Ln := ⟨100, 3000, 0, -5⟩
def lnC : Ln := ⟨100, 3000, 0, -4⟩
theorem ln_chk1 : checkL lfA [lnA, lnB] = 0 := by decide +kernel
theorem ln_chk2 : checkL lfA [lnA, lnC] = 10 := by decide +kernel
theorem one_fund {x y : Ln} {a : Int} (hx : x.fund = 100) (hy : y.fund = 100) (h : sumF [x, y] 100 = a) : IsFunds [x, y] [⟨100, 0, 0, a⟩] := ⟨by simp, fun z => ⟨fun hz => by
    rw [List.mem_singleton] at hz; subst hz
    exact ⟨⟨x, by simp, hx⟩, by show (⟨100, 0, 0, a⟩ : Ln) = ⟨100, 0, 0, sumF [x, y] 100⟩; rw [h]⟩, fun ⟨⟨w, hw, e⟩, hz⟩ => by
    have hf : z.fund = 100 := by
      simp only [List.mem_cons, List.not_mem_nil, or_false] at hw
      rcases hw with rfl | rfl
      · rw [← e]; exact hx
      · rw [← e]; exact hy
    rw [hf, h] at hz
    rw [hz]
    exact List.mem_singleton.2 rfl⟩⟩
theorem ln_fun1 : IsFunds [lnA, lnB] [⟨100, 0, 0, 0⟩] := one_fund rfl rfl (by decide +kernel)
theorem ln_fun2 : IsFunds [lnA, lnC] [⟨100, 0, 0, 1⟩] := one_fund rfl rfl (by decide +kernel)
set_option maxRecDepth 20000 in
set_option maxHeartbeats 2000000 in
theorem does_law23awake : Does Tryz.prog 20 trueSpec := by
  refine does_of_awp (good_cons does_vnewA (good_cons does_cNew (good_cons does_lCheckO (good_cons does_eqFundsO good_nil)))) Tryz.func20 rfl (by decide +kernel) (by decide +kernel) ?_
  rintro args h Q ⟨rfl, hq⟩
  refine ⟨by simp [Tryz.f20], ?_⟩
  rw [awpFunc_some (by rfl)]
  simp -dsimp only [Vm.G, List.lookup, Nat.reduceAdd, Nat.reduceBEq, Int.reduceBNe, Int.reduceBEq, Nat.reduceLeDiff, q20]
  refine call_one (S := vnewASpec) rfl _ GaL.rfl ⟨rfl, fun V h0 hV => ?_⟩
  simp -dsimp only [Vm.G, List.lookup, Nat.reduceAdd, Nat.reduceBEq, Int.reduceBNe, Int.reduceBEq, Nat.reduceLeDiff, q20]
  refine nil_pointer Tryz.underlying24 ?_
  simp -dsimp only [Vm.G, List.lookup, Nat.reduceAdd, Nat.reduceBEq, Int.reduceBNe, Int.reduceBEq, Nat.reduceLeDiff, q20]
  refine call_one (S := cNewSpec) rfl _ GaL.rfl ⟨V, noF, 100, [97], by simp, rfl, hV, by decide, fun h1 hV1 _ => ?_⟩
  rw [lf_new] at hV1 ⊢
  simp only at hV1 ⊢
  simp -dsimp only [Vm.G, List.lookup, Nat.reduceAdd, Nat.reduceBEq, Int.reduceBNe, Int.reduceBEq, Nat.reduceLeDiff, q20]
  refine bs_intro zr45 (by decide) (by decide) rfl rfl (by simp [solid, AV.cells]) ?_
  simp -dsimp only [Vm.G, List.lookup, Nat.reduceAdd, Nat.reduceBEq, Int.reduceBNe, Int.reduceBEq, Nat.reduceLeDiff, q20]
  refine call_row _ _ _ 2 16 (.inr rfl) rfl (by simp) fun c hc1 hc2 => ?_
  simp -dsimp only [Vm.G, List.lookup, Nat.reduceAdd, Nat.reduceBEq, Int.reduceBNe, Int.reduceBEq, Nat.reduceLeDiff, q20]
  have hids : ∀ i ∈ [V.iv, V.ic, V.im], i ∉ [h1.length] := by
    obtain ⟨_, _, _, _, k1, k2, k3, _⟩ := hV1
    have l1 := get_lt k1
    have l2 := get_lt k2
    have l3 := get_lt k3
    intro i hi hm
    simp only [List.mem_cons, List.not_mem_nil, or_false] at hi hm
    omega
  have hF1 : ∃ F, flat ([lnA, lnB].map lnAv) = F := ⟨_, rfl⟩
  have hF2 : ∃ F, flat ([lnA, lnC].map lnAv) = F := ⟨_, rfl⟩
  have ep : putCells (flat ([lnA, lnB].map lnAv)) 7 [.v (.int .i64 (-4))] = flat ([lnA, lnC].map lnAv) := rfl
  have el : (flat ([lnA, lnB].map lnAv)).length = 8 := rfl
  rcases hF1 with ⟨F1, hF1⟩
  rcases hF2 with ⟨F2, hF2⟩
  have g0 := heap_last h1 (AObj.row 45 (c * 4) (flat ([lnA, lnB].map lnAv)))
  have hV2 := hV1.more [AObj.row 45 (c * 4) (flat ([lnA, lnB].map lnAv))]
  show callC _ _ _ _ (h1 ++ [AObj.row 45 (c * 4) (flat ([lnA, lnB].map lnAv))]) _ _
  rw [hF1] at g0 hV2 ep el ⊢
  rw [hF2] at ep
  generalize h1 ++ [AObj.row 45 (c * 4) F1] = h2 at g0 hV2 ⊢
  generalize h1.length = id at g0 hids ⊢
  clear hc1 hV1 hV
  refine call_one (S := lCheckOSpec) rfl _ GaL.rfl ⟨V, lfA, [lnA, lnB], id, c, by simp, rfl, ⟨_, _, by rw [hF1]; exact g0⟩, hV2, ?_⟩
  rw [ln_chk1]
  simp -dsimp only [Vm.G, List.lookup, Nat.reduceAdd, Nat.reduceBEq, Int.reduceBNe, Int.reduceBEq, Nat.reduceLeDiff, q20]
  refine call_one (S := eqFundsOSpec) rfl _ GaL.rfl ⟨[lnA, lnB], id, c, by simp, rfl, ⟨_, _, by rw [hF1]; exact g0⟩, fun r h3 hr hs3 => ?_⟩
  have hr := funds_same hr ln_fun1
  subst hr
  have hV3 := hV2.same hs3 (by simp)
  have g3 := hs3.get g0 (by simp)
  have z : (!([⟨100, 0, 0, 0⟩] : List Ln).any lineNz) = true := by decide
  rw [z]
  clear hr hs3 g0 hV2
  simp -dsimp only [Vm.G, List.lookup, Nat.reduceAdd, Nat.reduceBEq, Int.reduceBNe, Int.reduceBEq, Nat.reduceLeDiff, q20]
  refine idxL_intro (by decide) (by decide) ?_
  simp -dsimp only [Vm.E, List.lookup, Nat.reduceAdd, Nat.reduceBEq, Int.reduceBNe, Int.reduceBEq, Bool.true_beq, Bool.false_beq, q20, Int.toNat_one, Nat.one_mul]
  refine store_row _ g3 ?_ ?_ ?_ ?_
  · rfl
  · rfl
  · rw [el]; decide
  have g4 : (h3.set id (.row 45 (c * 4) F2))[id]? = some (.row 45 (c * 4) F2) := List.getElem?_set_self (get_lt g3)
  have hV4 := hV3.same (Same.set h3 id (.row 45 (c * 4) F2)) hids
  simp -dsimp only [Vm.G, List.lookup, Nat.reduceAdd, Nat.reduceBEq, Int.reduceBNe, Int.reduceBEq, Nat.reduceLeDiff, q20, ep, AV.cells]
  generalize h3.set id (.row 45 (c * 4) F2) = h4 at g4 hV4 ⊢
  refine call_one (S := lCheckOSpec) rfl _ GaL.rfl ⟨V, lfA, [lnA, lnC], id, c, by simp, rfl, ⟨_, _, by rw [hF2]; exact g4⟩, hV4, ?_⟩
  rw [ln_chk2]
  simp -dsimp only [Vm.G, List.lookup, Nat.reduceAdd, Nat.reduceBEq, Int.reduceBNe, Int.reduceBEq, Nat.reduceLeDiff, q20]
  refine call_one (S := eqFundsOSpec) rfl _ GaL.rfl ⟨[lnA, lnC], id, c, by simp, rfl, ⟨_, _, by rw [hF2]; exact g4⟩, fun r h5 hr hs5 => ?_⟩
  have hr := funds_same hr ln_fun2
  subst hr
  have z : (!([⟨100, 0, 0, 1⟩] : List Ln).any lineNz) = false := by decide
  rw [z]
  simp -dsimp only [Vm.G, List.lookup, Nat.reduceAdd, Nat.reduceBEq, Int.reduceBNe, Int.reduceBEq, Nat.reduceLeDiff, q20]
  exact hq _
def plLinesSpec : Vm.Spec := fun args h Q => ∃ l : List Ln, args = [.sl 4 (l.map lnAv)] ∧ Q (.v (.bool (decide ((l.length : Int) ≤ 30)))) h
theorem does_plLines : Does Tryz.prog 19 plLinesSpec := by
  refine does_of_awp good_nil Tryz.func19 rfl (by decide +kernel) (by decide +kernel) ?_
  rintro args h Q ⟨l, rfl, hq⟩
  refine ⟨by simp [Tryz.f19], ?_⟩
  rw [awpFunc_some (by rfl)]
  simp -dsimp only [Vm.G, List.lookup, Nat.reduceAdd, Nat.reduceBEq, Int.reduceBNe, Int.reduceBEq, Nat.reduceLeDiff, q19]
  exact hq
def lncSpec : Vm.Spec := fun args h Q => ∃ (ns : List Int) (l : List Ln), ns.length ≤ 9223372036854775807 ∧ l.length ≤ 9223372036854775807 ∧ (∀ x ∈ l, x.ok) ∧ args = [.sl 1 (ns.map encI), .sl 4 (l.map lnAv)] ∧ ∀ h', Q (.v (.bool true)) h'
set_option maxRecDepth 20000 in
set_option maxHeartbeats 4000000 in
theorem does_lnc : Does Tryz.prog 4 lncSpec := by
  refine does_of_awp (good_cons does_plLines (good_cons does_law23awake (good_cons does_vnewA (good_cons does_rNewA (good_cons does_cNew (good_cons does_rcNew (good_cons does_lCheck (good_cons does_rlCheck (good_cons does_funds (good_cons does_rFunds (good_cons does_eqLn (good_cons does_eqFunds (good_cons does_rEqFunds good_nil))))))))))))) Tryz.func4 rfl (by decide +kernel) (by decide +kernel) ?_
  rintro args h Q ⟨ns, l, hns, hl, hok, rfl, hq⟩
  refine ⟨by simp [Tryz.f4], ?_⟩
  rw [awpFunc_some (by rfl)]
  simp -dsimp only [Vm.G, List.lookup, Nat.reduceAdd, Nat.reduceBEq, Int.reduceBNe, Int.reduceBEq, Nat.reduceLeDiff, q4]
  refine call_one (S := plLinesSpec) rfl _ GaL.rfl ⟨l, rfl, ?_⟩
  have h1 := Bool.eq_false_or_eq_true (decide ((l.length : Int) ≤ 30))
  rcases h1 with c1 | c1
  · have d1 := of_decide_eq_true c1
    simp -dsimp only [Vm.G, List.lookup, Nat.reduceAdd, Nat.reduceBEq, Int.reduceBNe, Int.reduceBEq, Nat.reduceLeDiff, q4, c1]
    have h2 := Bool.eq_false_or_eq_true (decide ((ns.length : Int) > 20))
    rcases h2 with c2 | c2
    · simp -dsimp only [Vm.G, List.lookup, Nat.reduceAdd, Nat.reduceBEq, Int.reduceBNe, Int.reduceBEq, Nat.reduceLeDiff, q4, c2]
      refine call_one (S := trueSpec) rfl _ GaL.rfl ⟨rfl, fun hz => ?_⟩
      simp -dsimp only [Vm.G, List.lookup, Nat.reduceAdd, Nat.reduceBEq, Int.reduceBNe, Int.reduceBEq, Nat.reduceLeDiff, q4]
      exact hq _
    · have d2 := of_decide_eq_false c2
      simp -dsimp only [Vm.G, List.lookup, Nat.reduceAdd, Nat.reduceBEq, Int.reduceBNe, Int.reduceBEq, Nat.reduceLeDiff, q4, c2]
      refine call_one (S := vnewASpec) rfl _ GaL.rfl ⟨rfl, fun V h00 hV00 => ?_⟩
      simp -dsimp only [Vm.G, List.lookup, Nat.reduceAdd, Nat.reduceBEq, Int.reduceBNe, Int.reduceBEq, Nat.reduceLeDiff, q4]
      refine call_one (S := rNewASpec) rfl _ (.cons (.nil 2) .nil) ⟨V, rfl, hV00, fun R h0 hB0 => ?_⟩
      clear hV00
      simp -dsimp only [Vm.G, List.lookup, Nat.reduceAdd, Nat.reduceBEq, Int.reduceBNe, Int.reduceBEq, Nat.reduceLeDiff, q4]
      refine awp_loop (fun m s h' => ∃ (i : Nat) (f : Fun), i + m = ns.length ∧ Both h' V R f ∧ f.n ≤ i ∧ s = mk [(1, .sl 4 (l.map lnAv)), (5, .ptr V.iv 0), (6, .ptr R.iv 0), (20, .sl 1 (ns.map encI)), (21, .v (.int .i64 ns.length)), (22, .v (.int .i64 (i : Nat)))])
        ns.length _ (le_mk _ ?_) ⟨0, noF, by omega, hB0, Nat.le_refl _, rfl⟩ ?_
      · simp only [List.forall_mem_cons, List.not_mem_nil, false_imp_iff, implies_true, and_true]
        try simp -dsimp only [Vm.G, List.lookup, Nat.reduceAdd, Nat.reduceBEq, Int.reduceBNe, Int.reduceBEq, Nat.reduceLeDiff, q4]
        repeat' first | exact Fg.refl _ | exact Fg.nil _ _ _ (by decide) | refine And.intro ?_ ?_
      · clear hB0
        rintro m s h' ⟨i, f, hi, hB, hfn, rfl⟩
        simp -dsimp only [Vm.G, List.lookup, Nat.reduceAdd, Nat.reduceBEq, Int.reduceBNe, Int.reduceBEq, Nat.reduceLeDiff, q4]
        refine cond_intro (fun hcc => ?_) (fun hcc => ?_)
        · have hlt : i < ns.length := by have := of_decide_eq_true hcc; omega
          have hw : IntKind.i64.wrap ((i : Int) + 1) = ((i + 1 : Nat) : Int) := by rw [wrap_i64 (by omega) (by omega)]; simp
          simp -dsimp only [Vm.G, List.lookup, Nat.reduceAdd, Nat.reduceBEq, Int.reduceBNe, Int.reduceBEq, Nat.reduceLeDiff, q4]
          refine idx_map encI ns i hlt ?_
          generalize ns[i] = n
          have hfl := newFund_n f n [97]
          simp only [encI]
          simp -dsimp only [Vm.G, List.lookup, Nat.reduceAdd, Nat.reduceBEq, Int.reduceBNe, Int.reduceBEq, Nat.reduceLeDiff, q4]
          refine call_one (S := cNewSpec) rfl _ GaL.rfl ⟨V, f, n, [97], by simp, rfl, hB.1, by omega, fun h2 g1 g2 => ?_⟩
          simp -dsimp only [Vm.G, List.lookup, Nat.reduceAdd, Nat.reduceBEq, Int.reduceBNe, Int.reduceBEq, Nat.reduceLeDiff, q4]
          refine call_one (S := rcNewSpec) rfl _ GaL.rfl ⟨R, f, n, [97], by simp, rfl, hB.view g1 g2, by omega, fun h3 g3 g4 => ?_⟩
          have hB2 := hB.ref g1 g3 g4
          simp -dsimp only [Vm.G, List.lookup, Nat.reduceAdd, Nat.reduceBEq, Int.reduceBNe, Int.reduceBEq, Nat.reduceLeDiff, q4]
          refine kept_intro ⟨ns.length - (i + 1), by omega, _, le_mk [(1, .sl 4 (l.map lnAv)), (5, .ptr V.iv 0), (6, .ptr R.iv 0), (20, .sl 1 (ns.map encI)), (21, .v (.int .i64 ns.length)), (22, .v (.int .i64 (i + 1 : Nat)))] ?_, i + 1, _, by omega, hB2, by omega, rfl⟩
          simp only [List.forall_mem_cons, List.not_mem_nil, false_imp_iff, implies_true, and_true, hw]
          try simp -dsimp only [Vm.G, List.lookup, Nat.reduceAdd, Nat.reduceBEq, Int.reduceBNe, Int.reduceBEq, Nat.reduceLeDiff, q4, hw]
          repeat' first | exact Fg.refl _ | exact Fg.nil _ _ _ (by decide) | refine And.intro ?_ ?_
        · have hge : ¬ i < ns.length := by have := of_decide_eq_false hcc; omega
          clear hcc
          simp -dsimp only [Vm.G, List.lookup, Nat.reduceAdd, Nat.reduceBEq, Int.reduceBNe, Int.reduceBEq, Nat.reduceLeDiff, q4]
          refine call_one (S := lCheckSpec) rfl _ GaL.rfl ⟨V, f, l, by omega, rfl, hB.1, ?_⟩
          simp -dsimp only [Vm.G, List.lookup, Nat.reduceAdd, Nat.reduceBEq, Int.reduceBNe, Int.reduceBEq, Nat.reduceLeDiff, q4]
          refine call_one (S := rlCheckSpec) rfl _ GaL.rfl ⟨R, f, l, by omega, rfl, hB.2.1, by omega, ?_⟩
          simp -dsimp only [Vm.G, List.lookup, Nat.reduceAdd, Nat.reduceBEq, Int.reduceBNe, Int.reduceBEq, Nat.reduceLeDiff, q4, beq_self_eq_true]
          refine call_one (S := fundsSpec) rfl _ GaL.rfl ⟨l, by omega, rfl, fun r h2 hr hs2 => ?_⟩
          have hrl := hr.len
          simp -dsimp only [Vm.G, List.lookup, Nat.reduceAdd, Nat.reduceBEq, Int.reduceBNe, Int.reduceBEq, Nat.reduceLeDiff, q4]
          refine call_one (S := rFundsSpec) rfl _ GaL.rfl ⟨l, by omega, hok, rfl, fun r2 hr2 => ?_⟩
          have he := funds_same hr2 hr
          subst he
          simp -dsimp only [Vm.G, List.lookup, Nat.reduceAdd, Nat.reduceBEq, Int.reduceBNe, Int.reduceBEq, Nat.reduceLeDiff, q4]
          refine call_one (S := eqSpecLn) rfl _ GaL.rfl ⟨r2, r2, by omega, rfl, fun b hb => ?_⟩
          have hb1 : b = true := hb.2 rfl
          subst hb1
          simp -dsimp only [Vm.G, List.lookup, Nat.reduceAdd, Nat.reduceBEq, Int.reduceBNe, Int.reduceBEq, Nat.reduceLeDiff, q4]
          refine call_one (S := eqFundsSpec) rfl _ GaL.rfl ⟨l, by omega, rfl, fun r3 h3 hr3 hs3 => ?_⟩
          have he := funds_same hr3 hr
          subst he
          simp -dsimp only [Vm.G, List.lookup, Nat.reduceAdd, Nat.reduceBEq, Int.reduceBNe, Int.reduceBEq, Nat.reduceLeDiff, q4]
          refine call_one (S := rEqFundsSpec) rfl _ GaL.rfl ⟨l, by omega, hok, rfl, fun r4 hr4 => ?_⟩
          have he := funds_same hr4 hr
          subst he
          simp -dsimp only [Vm.G, List.lookup, Nat.reduceAdd, Nat.reduceBEq, Int.reduceBNe, Int.reduceBEq, Nat.reduceLeDiff, q4, bool_eql, beq_self_eq_true]
          refine call_one (S := trueSpec) rfl _ GaL.rfl ⟨rfl, fun hz => ?_⟩
          simp -dsimp only [Vm.G, List.lookup, Nat.reduceAdd, Nat.reduceBEq, Int.reduceBNe, Int.reduceBEq, Nat.reduceLeDiff, q4]
          exact hq _
  · simp -dsimp only [Vm.G, List.lookup, Nat.reduceAdd, Nat.reduceBEq, Int.reduceBNe, Int.reduceBEq, Nat.reduceLeDiff, q4, c1]
    refine call_one (S := trueSpec) rfl _ GaL.rfl ⟨rfl, fun hz => ?_⟩
    simp -dsimp only [Vm.G, List.lookup, Nat.reduceAdd, Nat.reduceBEq, Int.reduceBNe, Int.reduceBEq, Nat.reduceLeDiff, q4]
    exact hq _
theorem isA_lnq {y : AV} (h : IsA (.agg [.int .i64, .int .i64, .int .i64, .int .i64]) y) : ∃ x : Ln, x.ok ∧ y = lnAv x := by
  simp only [IsA, IsAll] at h
  obtain ⟨ys, ⟨y1, r1, rfl, h1, y2, r2, rfl, h2, y3, r3, rfl, h3, y4, r4, rfl, h4, rfl⟩, rfl⟩ := h
  obtain ⟨a1, k1, rfl⟩ := isA_int (by simpa only [IsA] using h1)
  obtain ⟨a2, k2, rfl⟩ := isA_int (by simpa only [IsA] using h2)
  obtain ⟨a3, k3, rfl⟩ := isA_int (by simpa only [IsA] using h3)
  obtain ⟨a4, k4, rfl⟩ := isA_int (by simpa only [IsA] using h4)
  exact ⟨⟨a1, a2, a3, a4⟩, ⟨k1, k2, k3, k4⟩, rfl⟩
theorem lnc_args {y0 y1 : AV} (i0 : IsA (.sl (.int .i64)) y0) (i1 : IsA (.sl (.agg [.int .i64, .int .i64, .int .i64, .int .i64])) y1) {Q : AV → Heap → Prop} (hq : ∀ h', Q (.v (.bool true)) h') : lncSpec [y0, y1] [] Q := by
  obtain ⟨ns, hn, rfl, -⟩ := isA_list _ encI (fun y hy => isA_int hy) i0
  obtain ⟨l, hl, rfl, hok⟩ := isA_list _ lnAv (fun y hy => isA_lnq hy) i1
  exact ⟨ns, l, hn, hl, hok, rfl, hq⟩
end Go.Proofs.Lx
