/- What the functions of the program do: their contracts. -/
import Derived.Test.YtiggbkhkmecagaaGreatDoorV2
import Derived.Test.YtiggbkhkmecagaaGreatDoorTFs
import Derived.Test.YtiggbkhkmecagaaGreatDoorW1
import Derived.Test.YtiggbkhkmecagaaGreatDoorShelfSs
/- Documents: docs.Get, Set, All, Last, Open, Right. -/
set_option linter.unusedSimpArgs false
set_option linter.unusedVariables false
namespace Go.Proofs.Lx
open Go.Vm
attribute [local irreducible] awpArr awpBin awpMake awpAppend awpCvX awpStrOf awpBinX awpSlice awpBS awpStore awpAlloc awpCopy awpIndex awpDraw awpIdxX awpFa awpField awpLookup awpUpdate awpDelete awpClear awpRange awpNext awpEntry awpBuild awpClearS awpIdxL awpTree appB awpIdxO eltA treeA
def Dl.zero : Dl := ⟨0, 0, 0, 0⟩
def Dc.zero : Dc := ⟨0, 0, 0, 0, 0⟩
/-- A record's document, its line. -/
def dcOf (l : List Int) : Dc := ⟨l.getD 0 0, l.getD 1 0, l.getD 2 0, l.getD 3 0, l.getD 4 0⟩
def dlOf (l : List Int) : Dl := ⟨l.getD 2 0, l.getD 3 0, l.getD 4 0, l.getD 5 0⟩
def docOf (key val : List UInt8) : Option Dc := (numsPair 68 1 4 key val).map dcOf
def lineOf (key val : List UInt8) : Option Dl := (numsPair 76 2 4 key val).map dlOf
def docOfSpec : Vm.Spec := fun args h Q => ∃ key val : List UInt8, key.length ≤ 4611686018427387904 ∧ val.length ≤ 4611686018427387904 ∧ args = [.agg [.sl 1 (key.map encB), .sl 1 (val.map encB)]] ∧
  (∀ d, docOf key val = some d → Q (.tup [.agg (dcCells d), .v (.bool true)]) h) ∧ (docOf key val = none → Q (.tup [.agg (dcCells .zero), .v (.bool false)]) h)
set_option maxRecDepth 20000 in
set_option maxHeartbeats 1000000 in
theorem does_docOf : Does Tryz.prog 112 docOfSpec := by
  refine does_of_awp (good_cons does_documents (good_cons does_nums good_nil)) Tryz.func112 rfl (by decide +kernel) (by decide +kernel) ?_
  rintro args h Q ⟨key, val, hk, hv, rfl, hq1, hq2⟩
  refine ⟨by simp [Tryz.f112], ?_⟩
  rw [awpFunc_some (by rfl)]
  unfold docOf at hq1 hq2
  simp only [dcCells, Dc.zero] at hq2
  simp -dsimp only [Vm.E, List.lookup, Nat.reduceAdd, Nat.reduceBEq, Int.reduceBNe, Int.reduceBEq, Bool.true_beq, Bool.false_beq, Vm.S, Nat.reduceLeDiff, q112]
  refine draw_cont [1] (.take 1 (.alt 0 (.alt 2 (.take 3 (.take 4 (.take 5 (.alt 6 (.alt 7 (.done) .stop) .stop)))) .stop) .stop)) (fun s h' => h' = h ∧ s 2 = .box (dcCells .zero) ∧ ((∃ l, numsPair 68 1 4 key val = some l ∧ s 4 = .own true 3 1 (l.map encI) ∧ s 5 = .v (.bool true)) ∨ (numsPair 68 1 4 key val = none ∧ s 5 = .v (.bool false)))) (by kernel_rfl) (by kernel_rfl) (by kernel_rfl) (by decide) ?_ ?_
  · simp -dsimp only [Vm.E, List.lookup, Nat.reduceAdd, Nat.reduceBEq, Int.reduceBNe, Int.reduceBEq, Bool.true_beq, Bool.false_beq, Vm.S, Nat.reduceLeDiff, q112]
    refine call_one (S := tabSpec 68 1 4) rfl _ GaL.rfl ⟨rfl, ?_⟩
    simp -dsimp only [Vm.E, List.lookup, Nat.reduceAdd, Nat.reduceBEq, Int.reduceBNe, Int.reduceBEq, Bool.true_beq, Bool.false_beq, Vm.S, Nat.reduceLeDiff, q112]
    refine call_one (S := numsSpec) rfl _ GaL.rfl ⟨68, 1, 4, key, val, by decide, hk, hv, rfl, fun l hl => ?_, fun hl => ?_, fun hl l => ?_⟩
    · simp -dsimp only [Vm.E, List.lookup, Nat.reduceAdd, Nat.reduceBEq, Int.reduceBNe, Int.reduceBEq, Bool.true_beq, Bool.false_beq, Vm.S, Nat.reduceLeDiff, q112]
      exact ⟨rfl, .inl ⟨l, hl, rfl, trivial⟩⟩
    · simp -dsimp only [Vm.E, List.lookup, Nat.reduceAdd, Nat.reduceBEq, Int.reduceBNe, Int.reduceBEq, Bool.true_beq, Bool.false_beq, Vm.S, Nat.reduceLeDiff, q112]
      exact ⟨rfl, .inr ⟨hl, trivial⟩⟩
    · simp -dsimp only [Vm.E, List.lookup, Nat.reduceAdd, Nat.reduceBEq, Int.reduceBNe, Int.reduceBEq, Bool.true_beq, Bool.false_beq, Vm.S, Nat.reduceLeDiff, q112]
      exact ⟨rfl, .inr ⟨hl, trivial⟩⟩
  · rintro s h' ⟨rfl, hs2, ⟨l, hl, hs4, hs5⟩ | ⟨hl, hs5⟩⟩
    · rw [hl] at hq1
      have hlen := numsPair_length hl
      have hq1' := hq1 (dcOf l) rfl
      clear hq1 hq2 hl
      simp only [dcCells, Dc.zero] at hs2
      match l, hlen with
      | [a0, a1, a2, a3, a4], _ =>
      simp -dsimp only [Vm.E, List.lookup, Nat.reduceAdd, Nat.reduceBEq, Int.reduceBNe, Int.reduceBEq, Bool.true_beq, Bool.false_beq, Vm.S, Nat.reduceLeDiff, q112, hs5]
      refine draw_cont [4] (.take 0 (.take 1 (.take 2 (.take 3 (.take 4 (.take 5 (.take 6 (.take 7 (.take 8 (.take 9 (.take 10 (.take 11 (.take 12 (.take 13 (.take 14 (.alt 15 (.alt 16 (.alt 17 (.done) .stop) .stop) .stop)))))))))))))))) (fun s h'' => h'' = h' ∧ s 2 = .box [.v (.int .i64 a0), .v (.int .i64 a1), .v (.int .i64 a2), .v (.int .i64 a3), .v (.int .i64 a4)] ∧ s 3 = .v (.bool true)) (by kernel_rfl) (by kernel_rfl) (by kernel_rfl) (by decide) ?_ ?_
      · simp -dsimp only [Vm.E, List.lookup, Nat.reduceAdd, Nat.reduceBEq, Int.reduceBNe, Int.reduceBEq, Bool.true_beq, Bool.false_beq, Vm.S, Nat.reduceLeDiff, q112, idx_lit, idxE_some, Int.reduceToNat, Int.reduceLE, decide_true, eq_self, hs2, hs4, hs5, encI]
        repeat' first | rfl | exact True.intro | refine And.intro ?_ ?_
      · rintro s2 h2 ⟨rfl, g2, g3⟩
        simp -dsimp only [Vm.E, List.lookup, Nat.reduceAdd, Nat.reduceBEq, Int.reduceBNe, Int.reduceBEq, Bool.true_beq, Bool.false_beq, Vm.S, Nat.reduceLeDiff, q112, g2, g3]
        exact hq1'
    · rw [hl] at hq2
      simp only [dcCells, Dc.zero] at hs2
      simp -dsimp only [Vm.E, List.lookup, Nat.reduceAdd, Nat.reduceBEq, Int.reduceBNe, Int.reduceBEq, Bool.true_beq, Bool.false_beq, Vm.S, Nat.reduceLeDiff, q112, hs2, hs5]
      exact hq2 rfl
def lineOfSpec : Vm.Spec := fun args h Q => ∃ key val : List UInt8, key.length ≤ 4611686018427387904 ∧ val.length ≤ 4611686018427387904 ∧ args = [.agg [.sl 1 (key.map encB), .sl 1 (val.map encB)]] ∧
  (∀ d, lineOf key val = some d → Q (.tup [.agg (dlCells d), .v (.bool true)]) h) ∧ (lineOf key val = none → Q (.tup [.agg (dlCells .zero), .v (.bool false)]) h)
set_option maxRecDepth 20000 in
set_option maxHeartbeats 1000000 in
theorem does_lineOf : Does Tryz.prog 185 lineOfSpec := by
  refine does_of_awp (good_cons does_docLines (good_cons does_nums good_nil)) Tryz.func185 rfl (by decide +kernel) (by decide +kernel) ?_
  rintro args h Q ⟨key, val, hk, hv, rfl, hq1, hq2⟩
  refine ⟨by simp [Tryz.f185], ?_⟩
  rw [awpFunc_some (by rfl)]
  unfold lineOf at hq1 hq2
  simp only [dlCells, Dl.zero] at hq2
  simp -dsimp only [Vm.E, List.lookup, Nat.reduceAdd, Nat.reduceBEq, Int.reduceBNe, Int.reduceBEq, Bool.true_beq, Bool.false_beq, Vm.S, Nat.reduceLeDiff, q185]
  refine draw_cont [1] (.take 1 (.alt 0 (.alt 2 (.take 3 (.take 4 (.take 5 (.alt 6 (.alt 7 (.done) .stop) .stop)))) .stop) .stop)) (fun s h' => h' = h ∧ s 2 = .box (dlCells .zero) ∧ ((∃ l, numsPair 76 2 4 key val = some l ∧ s 4 = .own true 3 1 (l.map encI) ∧ s 5 = .v (.bool true)) ∨ (numsPair 76 2 4 key val = none ∧ s 5 = .v (.bool false)))) (by kernel_rfl) (by kernel_rfl) (by kernel_rfl) (by decide) ?_ ?_
  · simp -dsimp only [Vm.E, List.lookup, Nat.reduceAdd, Nat.reduceBEq, Int.reduceBNe, Int.reduceBEq, Bool.true_beq, Bool.false_beq, Vm.S, Nat.reduceLeDiff, q185]
    refine call_one (S := tabSpec 76 2 4) rfl _ GaL.rfl ⟨rfl, ?_⟩
    simp -dsimp only [Vm.E, List.lookup, Nat.reduceAdd, Nat.reduceBEq, Int.reduceBNe, Int.reduceBEq, Bool.true_beq, Bool.false_beq, Vm.S, Nat.reduceLeDiff, q185]
    refine call_one (S := numsSpec) rfl _ GaL.rfl ⟨76, 2, 4, key, val, by decide, hk, hv, rfl, fun l hl => ?_, fun hl => ?_, fun hl l => ?_⟩
    · simp -dsimp only [Vm.E, List.lookup, Nat.reduceAdd, Nat.reduceBEq, Int.reduceBNe, Int.reduceBEq, Bool.true_beq, Bool.false_beq, Vm.S, Nat.reduceLeDiff, q185]
      exact ⟨rfl, .inl ⟨l, hl, rfl, trivial⟩⟩
    · simp -dsimp only [Vm.E, List.lookup, Nat.reduceAdd, Nat.reduceBEq, Int.reduceBNe, Int.reduceBEq, Bool.true_beq, Bool.false_beq, Vm.S, Nat.reduceLeDiff, q185]
      exact ⟨rfl, .inr ⟨hl, trivial⟩⟩
    · simp -dsimp only [Vm.E, List.lookup, Nat.reduceAdd, Nat.reduceBEq, Int.reduceBNe, Int.reduceBEq, Bool.true_beq, Bool.false_beq, Vm.S, Nat.reduceLeDiff, q185]
      exact ⟨rfl, .inr ⟨hl, trivial⟩⟩
  · rintro s h' ⟨rfl, hs2, ⟨l, hl, hs4, hs5⟩ | ⟨hl, hs5⟩⟩
    · rw [hl] at hq1
      have hlen := numsPair_length hl
      have hq1' := hq1 (dlOf l) rfl
      clear hq1 hq2 hl
      simp only [dlCells, Dl.zero] at hs2
      match l, hlen with
      | [a0, a1, a2, a3, a4, a5], _ =>
      simp -dsimp only [Vm.E, List.lookup, Nat.reduceAdd, Nat.reduceBEq, Int.reduceBNe, Int.reduceBEq, Bool.true_beq, Bool.false_beq, Vm.S, Nat.reduceLeDiff, q185, hs5]
      refine draw_cont [4] (.take 0 (.take 1 (.take 2 (.take 3 (.take 4 (.take 5 (.take 6 (.take 7 (.take 8 (.take 9 (.take 10 (.take 11 (.alt 12 (.alt 13 (.alt 14 (.done) .stop) .stop) .stop))))))))))))) (fun s h'' => h'' = h' ∧ s 2 = .box [.v (.int .i64 a2), .v (.int .i64 a3), .v (.int .i64 a4), .v (.int .i64 a5)] ∧ s 3 = .v (.bool true)) (by kernel_rfl) (by kernel_rfl) (by kernel_rfl) (by decide) ?_ ?_
      · simp -dsimp only [Vm.E, List.lookup, Nat.reduceAdd, Nat.reduceBEq, Int.reduceBNe, Int.reduceBEq, Bool.true_beq, Bool.false_beq, Vm.S, Nat.reduceLeDiff, q185, idx_lit, idxE_some, Int.reduceToNat, Int.reduceLE, decide_true, eq_self, hs2, hs4, hs5, encI]
        repeat' first | rfl | exact True.intro | refine And.intro ?_ ?_
      · rintro s2 h2 ⟨rfl, g2, g3⟩
        simp -dsimp only [Vm.E, List.lookup, Nat.reduceAdd, Nat.reduceBEq, Int.reduceBNe, Int.reduceBEq, Bool.true_beq, Bool.false_beq, Vm.S, Nat.reduceLeDiff, q185, g2, g3]
        exact hq1'
    · rw [hl] at hq2
      simp only [dlCells, Dl.zero] at hs2
      simp -dsimp only [Vm.E, List.lookup, Nat.reduceAdd, Nat.reduceBEq, Int.reduceBNe, Int.reduceBEq, Bool.true_beq, Bool.false_beq, Vm.S, Nat.reduceLeDiff, q185, hs2, hs5]
      exact hq2 rfl
def fetchSpec : Vm.Spec := fun args h Q => ∃ (V : VId) (f : Fun) (tag : UInt8) (l : List Int), l.length ≤ 15 ∧ args = [.agg [.ptr V.iv 0], .v (.int .u8 tag.toNat), .sl 1 (l.map encI)] ∧ isView h V f ∧
  (∀ v, f (keyOf tag l) = some v → Q (.tup [.agg [.sl 1 ((keyOf tag l).map encB), .sl 1 (v.map encB)], .v (.bool true)]) h) ∧ (f (keyOf tag l) = none → Q (.tup [.agg [.sl 1 ((keyOf tag l).map encB), .sl 1 []], .v (.bool false)]) h)
theorem does_fetch : Does Tryz.prog 184 fetchSpec := by
  refine does_of_awp (good_cons does_key (good_cons does_vgetW good_nil)) Tryz.func184 rfl (by decide +kernel) (by decide +kernel) ?_
  rintro args h Q ⟨V, f, tag, l, hl, rfl, hV, hq1, hq2⟩
  refine ⟨by simp [Tryz.f184], ?_⟩
  rw [awpFunc_some (by rfl)]
  simp -dsimp only [Vm.E, List.lookup, Nat.reduceAdd, Nat.reduceBEq, Int.reduceBNe, Int.reduceBEq, Bool.true_beq, Bool.false_beq, Vm.S, Nat.reduceLeDiff, q184]
  refine call_one (S := keySpec) rfl _ GaL.rfl ⟨tag, l, by omega, rfl, ?_⟩
  simp -dsimp only [Vm.E, List.lookup, Nat.reduceAdd, Nat.reduceBEq, Int.reduceBNe, Int.reduceBEq, Bool.true_beq, Bool.false_beq, Vm.S, Nat.reduceLeDiff, q184]
  refine call_one (S := vgetWSpec) rfl _ GaL.rfl ⟨V, f, keyOf tag l, rfl, hV, fun v hf => ?_, fun hf => ?_⟩
  · simp -dsimp only [Vm.E, List.lookup, Nat.reduceAdd, Nat.reduceBEq, Int.reduceBNe, Int.reduceBEq, Bool.true_beq, Bool.false_beq, Vm.S, Nat.reduceLeDiff, q184]
    exact hq1 v hf
  · simp -dsimp only [Vm.E, List.lookup, Nat.reduceAdd, Nat.reduceBEq, Int.reduceBNe, Int.reduceBEq, Bool.true_beq, Bool.false_beq, Vm.S, Nat.reduceLeDiff, q184]
    exact hq2 hf
def headOk (id : Int) (d : Dc) : Bool := (d.id == id) && (decide (d.lines ≥ 1) && decide (d.lines ≤ 6))
/-- A document's head, a line of it. -/
def docHead (f : Fun) (id : Int) : Option Dc := (f (dcK id)).bind fun v => (docOf (dcK id) v).bind fun d => if headOk id d then some d else none
def lineAt (f : Fun) (id i : Int) : Option Dl := (f (dlK id i)).bind fun v => lineOf (dlK id i) v
def docSpec : Vm.Spec := fun args h Q => ∃ (V : VId) (f : Fun) (id : Int), args = [.agg [.ptr V.iv 0], .v (.int .i64 id)] ∧ isView h V f ∧
  (∀ d, docHead f id = some d → Q (.tup [.agg (dcCells d), .v (.bool true)]) h) ∧ (docHead f id = none → ∀ d : Dc, Q (.tup [.agg (dcCells d), .v (.bool false)]) h)
set_option maxRecDepth 20000 in
set_option maxHeartbeats 1000000 in
theorem does_doc : Does Tryz.prog 109 docSpec := by
  refine does_of_awp (good_cons does_fetch (good_cons does_docOf good_nil)) Tryz.func109 rfl (by decide +kernel) (by decide +kernel) ?_
  rintro args h Q ⟨V, f, id, rfl, hV, hq1, hq2⟩
  refine ⟨by simp [Tryz.f109], ?_⟩
  rw [awpFunc_some (by rfl)]
  have hk := dcK_length id
  unfold docHead at hq1 hq2
  simp -dsimp only [Vm.E, List.lookup, Nat.reduceAdd, Nat.reduceBEq, Int.reduceBNe, Int.reduceBEq, Bool.true_beq, Bool.false_beq, Vm.S, Nat.reduceLeDiff, q109]
  refine bs_intro zr3 (by decide) (by decide) rfl rfl (by simp [solid, AV.cells]) ?_
  simp -dsimp only [Vm.E, List.lookup, Nat.reduceAdd, Nat.reduceBEq, Int.reduceBNe, Int.reduceBEq, Bool.true_beq, Bool.false_beq, Vm.S, Nat.reduceLeDiff, q109]
  refine call_one (S := fetchSpec) rfl _ GaL.rfl ⟨V, f, 68, [id], by simp, rfl, hV, fun v hf => ?_, fun hf => ?_⟩
  · have hvl := hV.len _ _ hf
    have hf : f (dcK id) = some v := hf
    rw [hf] at hq1 hq2
    simp only [Option.bind_some] at hq1 hq2
    have ek : keyOf 68 [id] = dcK id := rfl
    simp -dsimp only [Vm.E, List.lookup, Nat.reduceAdd, Nat.reduceBEq, Int.reduceBNe, Int.reduceBEq, Bool.true_beq, Bool.false_beq, Vm.S, Nat.reduceLeDiff, q109, ek]
    generalize dcK id = key at hk hq1 hq2
    refine call_one (S := docOfSpec) rfl _ GaL.rfl ⟨key, v, by omega, by omega, rfl, fun d hd => ?_, fun hd => ?_⟩
    · rw [hd] at hq1 hq2
      simp only [Option.bind_some] at hq1 hq2
      simp only [dcCells] at hq1 hq2 ⊢
      simp -dsimp only [Vm.E, List.lookup, Nat.reduceAdd, Nat.reduceBEq, Int.reduceBNe, Int.reduceBEq, Bool.true_beq, Bool.false_beq, Vm.S, Nat.reduceLeDiff, q109]
      refine draw_cont [8] (.take 0 (.take 1 (.take 2 (.take 3 (.take 5 (.alt 4 (.take 6 (.take 7 (.take 8 (.take 9 (.alt 10 (.take 11 (.take 12 (.take 13 (.take 14 (.alt 15 (.take 16 (.take 17 (.alt 18 (.alt 19 (.done) .stop) .stop))) (.alt 18 (.alt 15 (.take 16 (.take 17 (.alt 19 (.done) .stop))) .stop) (.stop))))))) .stop))))) .stop)))))) (fun s h2 => h2 = h ∧ s 4 = .box [.v (.int .i64 d.id), .v (.int .i64 d.kind), .v (.int .i64 d.year), .v (.int .i64 d.frm), .v (.int .i64 d.lines)] ∧ s 5 = .v (.bool (headOk id d))) (by kernel_rfl) (by kernel_rfl) (by kernel_rfl) (by decide) ?_ ?_
      · clear hq1 hq2
        unfold headOk
        have h1 := Bool.eq_false_or_eq_true (d.id == id)
        rcases h1 with c1 | c1
        · have h2 := Bool.eq_false_or_eq_true (decide (d.lines ≥ 1))
          rcases h2 with c2 | c2
          · repeat' first
              | with_reducible exact True.intro
              | simp -dsimp only [Vm.E, List.lookup, Nat.reduceAdd, Nat.reduceBEq, Int.reduceBNe, Int.reduceBEq, Bool.true_beq, Bool.false_beq, Vm.S, Nat.reduceLeDiff, q109, c1, c2, Bool.true_and]
              | refine tree_alt ?_ ?_
              | repeat' first | rfl | exact True.intro | refine And.intro ?_ ?_
          · repeat' first
              | with_reducible exact True.intro
              | simp -dsimp only [Vm.E, List.lookup, Nat.reduceAdd, Nat.reduceBEq, Int.reduceBNe, Int.reduceBEq, Bool.true_beq, Bool.false_beq, Vm.S, Nat.reduceLeDiff, q109, c1, c2, Bool.true_and, Bool.false_and]
              | refine tree_alt ?_ ?_
              | repeat' first | rfl | exact True.intro | refine And.intro ?_ ?_
        · repeat' first
            | with_reducible exact True.intro
            | simp -dsimp only [Vm.E, List.lookup, Nat.reduceAdd, Nat.reduceBEq, Int.reduceBNe, Int.reduceBEq, Bool.true_beq, Bool.false_beq, Vm.S, Nat.reduceLeDiff, q109, c1, Bool.false_and]
            | refine tree_alt ?_ ?_
            | repeat' first | rfl | exact True.intro | refine And.intro ?_ ?_
      · rintro s h2 ⟨rfl, e4, e5⟩
        have hd2 := Bool.eq_false_or_eq_true (headOk id d)
        rcases hd2 with c | c
        · rw [c] at e5
          simp -dsimp only [Vm.E, List.lookup, Nat.reduceAdd, Nat.reduceBEq, Int.reduceBNe, Int.reduceBEq, Bool.true_beq, Bool.false_beq, Vm.S, Nat.reduceLeDiff, q109, e4, e5]
          exact hq1 d (if_pos c)
        · rw [c] at e5
          simp -dsimp only [Vm.E, List.lookup, Nat.reduceAdd, Nat.reduceBEq, Int.reduceBNe, Int.reduceBEq, Bool.true_beq, Bool.false_beq, Vm.S, Nat.reduceLeDiff, q109, e4, e5]
          exact hq2 (if_neg (by rw [c]; decide)) d
    · rw [hd] at hq2
      have hq := hq2 rfl .zero
      simp only [dcCells, Dc.zero] at hq ⊢
      simp -dsimp only [Vm.E, List.lookup, Nat.reduceAdd, Nat.reduceBEq, Int.reduceBNe, Int.reduceBEq, Bool.true_beq, Bool.false_beq, Vm.S, Nat.reduceLeDiff, q109]
      refine draw_cont [8] (.take 0 (.take 1 (.take 2 (.take 3 (.take 5 (.alt 4 (.take 6 (.take 7 (.take 8 (.take 9 (.alt 10 (.take 11 (.take 12 (.take 13 (.take 14 (.alt 15 (.take 16 (.take 17 (.alt 18 (.alt 19 (.done) .stop) .stop))) (.alt 18 (.alt 15 (.take 16 (.take 17 (.alt 19 (.done) .stop))) .stop) (.stop))))))) .stop))))) .stop)))))) (fun s h2 => h2 = h ∧ s 4 = .box [.v (.int .i64 0), .v (.int .i64 0), .v (.int .i64 0), .v (.int .i64 0), .v (.int .i64 0)] ∧ s 5 = .v (.bool false)) (by kernel_rfl) (by kernel_rfl) (by kernel_rfl) (by decide) ?_ ?_
      · clear hq1 hq2 hq
        repeat' first
          | with_reducible exact True.intro
          | simp -dsimp only [Vm.E, List.lookup, Nat.reduceAdd, Nat.reduceBEq, Int.reduceBNe, Int.reduceBEq, Bool.true_beq, Bool.false_beq, Vm.S, Nat.reduceLeDiff, q109]
          | refine tree_alt ?_ ?_
          | repeat' first | rfl | exact True.intro | refine And.intro ?_ ?_
      · rintro s h2 ⟨rfl, e4, e5⟩
        simp -dsimp only [Vm.E, List.lookup, Nat.reduceAdd, Nat.reduceBEq, Int.reduceBNe, Int.reduceBEq, Bool.true_beq, Bool.false_beq, Vm.S, Nat.reduceLeDiff, q109, e4, e5]
        exact hq
  · have hf : f (dcK id) = none := hf
    rw [hf] at hq2
    have hq := hq2 rfl .zero
    simp only [dcCells, Dc.zero] at hq
    simp -dsimp only [Vm.E, List.lookup, Nat.reduceAdd, Nat.reduceBEq, Int.reduceBNe, Int.reduceBEq, Bool.true_beq, Bool.false_beq, Vm.S, Nat.reduceLeDiff, q109]
    exact hq
def dlineSpec : Vm.Spec := fun args h Q => ∃ (V : VId) (f : Fun) (id i : Int), args = [.agg [.ptr V.iv 0], .v (.int .i64 id), .v (.int .i64 i)] ∧ isView h V f ∧
  (∀ d, lineAt f id i = some d → Q (.tup [.agg (dlCells d), .v (.bool true)]) h) ∧ (lineAt f id i = none → Q (.tup [.agg (dlCells .zero), .v (.bool false)]) h)
set_option maxRecDepth 20000 in
theorem does_dline : Does Tryz.prog 110 dlineSpec := by
  refine does_of_awp (good_cons does_fetch (good_cons does_lineOf good_nil)) Tryz.func110 rfl (by decide +kernel) (by decide +kernel) ?_
  rintro args h Q ⟨V, f, id, i, rfl, hV, hq1, hq2⟩
  refine ⟨by simp [Tryz.f110], ?_⟩
  rw [awpFunc_some (by rfl)]
  have hk := dlK_length id i
  unfold lineAt at hq1 hq2
  simp only [dlCells, Dl.zero] at hq2
  simp -dsimp only [Vm.E, List.lookup, Nat.reduceAdd, Nat.reduceBEq, Int.reduceBNe, Int.reduceBEq, Bool.true_beq, Bool.false_beq, Vm.S, Nat.reduceLeDiff, q110]
  refine bs_intro zr3 (by decide) (by decide) rfl rfl (by simp [solid, AV.cells]) ?_
  simp -dsimp only [Vm.E, List.lookup, Nat.reduceAdd, Nat.reduceBEq, Int.reduceBNe, Int.reduceBEq, Bool.true_beq, Bool.false_beq, Vm.S, Nat.reduceLeDiff, q110]
  refine call_one (S := fetchSpec) rfl _ GaL.rfl ⟨V, f, 76, [id, i], by simp, rfl, hV, fun v hf => ?_, fun hf => ?_⟩
  · have hvl := hV.len _ _ hf
    have hf : f (dlK id i) = some v := hf
    rw [hf] at hq1 hq2
    simp only [Option.bind_some] at hq1 hq2
    have ek : keyOf 76 [id, i] = dlK id i := rfl
    simp -dsimp only [Vm.E, List.lookup, Nat.reduceAdd, Nat.reduceBEq, Int.reduceBNe, Int.reduceBEq, Bool.true_beq, Bool.false_beq, Vm.S, Nat.reduceLeDiff, q110, ek]
    generalize dlK id i = key at hk hq1 hq2
    refine call_one (S := lineOfSpec) rfl _ GaL.rfl ⟨key, v, by omega, by omega, rfl, fun d hd => ?_, fun hd => ?_⟩
    · have hq := hq1 d hd
      simp only [dlCells] at hq ⊢
      simp -dsimp only [Vm.E, List.lookup, Nat.reduceAdd, Nat.reduceBEq, Int.reduceBNe, Int.reduceBEq, Bool.true_beq, Bool.false_beq, Vm.S, Nat.reduceLeDiff, q110]
      exact hq
    · have hq := hq2 hd
      simp only [dlCells, Dl.zero]
      simp -dsimp only [Vm.E, List.lookup, Nat.reduceAdd, Nat.reduceBEq, Int.reduceBNe, Int.reduceBEq, Bool.true_beq, Bool.false_beq, Vm.S, Nat.reduceLeDiff, q110]
      exact hq
  · have hf : f (dlK id i) = none := hf
    rw [hf] at hq2
    simp -dsimp only [Vm.E, List.lookup, Nat.reduceAdd, Nat.reduceBEq, Int.reduceBNe, Int.reduceBEq, Bool.true_beq, Bool.false_beq, Vm.S, Nat.reduceLeDiff, q110]
    exact hq2 rfl
/-- A document's lines, so many. -/
def linesAt (f : Fun) (id : Int) : Nat → Option (List Dl)
  | 0 => some []
  | n + 1 => (linesAt f id n).bind fun l => (lineAt f id n).map fun x => l ++ [x]
theorem linesAt_length {f : Fun} {id : Int} : ∀ {n : Nat} {l : List Dl}, linesAt f id n = some l → l.length = n
  | 0, l, h => by cases h; rfl
  | n + 1, l, h => by
    unfold linesAt at h
    cases h1 : linesAt f id n with
    | none => rw [h1] at h; cases h
    | some l1 =>
      rw [h1] at h
      cases h2 : lineAt f id n with
      | none => rw [Option.bind_some, h2] at h; cases h
      | some x =>
        rw [Option.bind_some, h2] at h
        cases h
        simp [linesAt_length h1]
theorem linesAt_none {f : Fun} {id : Int} : ∀ {n m : Nat}, n ≤ m → linesAt f id n = none → linesAt f id m = none
  | n, 0, hle, h => by
    obtain rfl : n = 0 := by omega
    exact h
  | n, m + 1, hle, h => by
    by_cases e : n = m + 1
    · subst e; exact h
    · have := linesAt_none (m := m) (by omega) h
      unfold linesAt
      rw [this]; rfl
def docAt (f : Fun) (id : Int) : Option (Dc × List Dl) := (docHead f id).bind fun d => (linesAt f id d.lines.toNat).map fun l => (d, l)
def docsGetSpec : Vm.Spec := fun args h Q => ∃ (V : VId) (f : Fun) (id : Int), args = [.ptr V.iv 0, .v (.int .i64 id)] ∧ isView h V f ∧
  (∀ d l, docAt f id = some (d, l) → l.length ≤ 6 → d.lines = l.length → Q (.otup 1 true 62 4 (l.map dlAv) [.agg (dcCells d), .any, .v (.bool true)]) h) ∧
  (docAt f id = none → Q (.tup [.agg (dcCells .zero), .v (.slice none 0 0), .v (.bool false)]) h)
theorem headOk_iff {id : Int} {d : Dc} : headOk id d = true ↔ d.id = id ∧ 1 ≤ d.lines ∧ d.lines ≤ 6 := by
  simp [headOk]
theorem docHead_ok {f : Fun} {id : Int} {d : Dc} (h : docHead f id = some d) : d.id = id ∧ 1 ≤ d.lines ∧ d.lines ≤ 6 := by
  unfold docHead at h
  cases h1 : f (dcK id) with
  | none => rw [h1] at h; cases h
  | some v =>
    rw [h1, Option.bind_some] at h
    cases h2 : docOf (dcK id) v with
    | none => rw [h2] at h; cases h
    | some d2 =>
      rw [h2, Option.bind_some] at h
      split at h
      · rename_i hc; cases h; exact headOk_iff.1 hc
      · cases h
set_option maxRecDepth 20000 in
set_option maxHeartbeats 2000000 in
theorem does_docsGet : Does Tryz.prog 37 docsGetSpec := by
  refine does_of_awpO 1 (good_cons does_doc (good_cons does_dline good_nil)) Tryz.func37 rfl (by decide +kernel) (by decide +kernel) ?_
  rintro args h Q ⟨V, f, id, rfl, hV, hq1, hq2⟩
  refine ⟨by simp [Tryz.f37], ?_⟩
  rw [awpFuncO_some (by rfl)]
  unfold docAt at hq1 hq2
  simp only [dcCells, Dc.zero] at hq2
  simp -dsimp only [Vm.E, List.lookup, Nat.reduceAdd, Nat.reduceBEq, Int.reduceBNe, Int.reduceBEq, Bool.true_beq, Bool.false_beq, Vm.S, Nat.reduceLeDiff, q37]
  refine call_one (S := docSpec) rfl _ GaL.rfl ⟨V, f, id, rfl, hV, fun d hd => ?_, fun hd d => ?_⟩
  · rw [hd] at hq1 hq2
    simp only [Option.bind_some] at hq1 hq2
    obtain ⟨-, hd1, hd2⟩ := docHead_ok hd
    simp only [dcCells] at hq1 ⊢
    have hn : ∃ n : Nat, d.lines = n ∧ 1 ≤ n ∧ n ≤ 6 := ⟨d.lines.toNat, by omega, by omega, by omega⟩
    rcases hn with ⟨n, hn, hn1, hn6⟩
    have htn : d.lines.toNat = n := by omega
    rw [htn] at hq1 hq2
    have cz : cst (.agg #[.int .i64 0, .int .i64 0, .int .i64 0, .int .i64 0]) = dlAv .zero := by simp [cst, plain, dlAv, dlCells, Dl.zero]
    simp -dsimp only [Vm.E, List.lookup, Nat.reduceAdd, Nat.reduceBEq, Int.reduceBNe, Int.reduceBEq, Bool.true_beq, Bool.false_beq, Vm.S, Nat.reduceLeDiff, q37, hn]
    refine make_intro ei55 z62 (.inr ⟨_, rfl, by simp [plain]⟩) (by omega) (Int.le_refl _) (by omega) (by omega) ?_
    rw [cz, Int.toNat_natCast]
    simp -dsimp only [Vm.E, List.lookup, Nat.reduceAdd, Nat.reduceBEq, Int.reduceBNe, Int.reduceBEq, Bool.true_beq, Bool.false_beq, Vm.S, Nat.reduceLeDiff, q37, List.length_replicate]
    refine awp_loop (fun m s h' => ∃ (i : Nat) (l : List Dl), i + m = n ∧ h' = h ∧ linesAt f id i = some l ∧ s = mk [(1, .v (.int .i64 id)), (7, .box [.ptr V.iv 0]), (8, .box [.v (.int .i64 d.id), .v (.int .i64 d.kind), .v (.int .i64 d.year), .v (.int .i64 d.frm), .v (.int .i64 d.lines)]), (10, .own true 62 4 ((l).map dlAv ++ List.replicate (n - (i)) (dlAv .zero))), (29, .v (.int .i64 (n : Nat))), (30, .v (.int .i64 (i : Nat))), (4, .box [.v (.int .i64 0), .v (.int .i64 0), .v (.int .i64 0), .v (.int .i64 0), .v (.int .i64 0)])])
      n _ (le_mk _ ?_) ⟨0, [], by omega, rfl, rfl, rfl⟩ ?_
    · simp only [List.forall_mem_cons, List.not_mem_nil, false_imp_iff, implies_true, and_true, List.map_nil, List.nil_append, Nat.sub_zero, hn]
      try simp -dsimp only [Vm.E, List.lookup, Nat.reduceAdd, Nat.reduceBEq, Int.reduceBNe, Int.reduceBEq, Bool.true_beq, Bool.false_beq, Vm.S, Nat.reduceLeDiff, q37, List.map_nil, List.nil_append, Nat.sub_zero, hn]
      repeat' first | exact Fg.refl _ | exact Fg.nil _ _ _ (by decide) | refine And.intro ?_ ?_
    · rintro m s h' ⟨i, l, hi, rfl, hli, rfl⟩
      simp -dsimp only [Vm.E, List.lookup, Nat.reduceAdd, Nat.reduceBEq, Int.reduceBNe, Int.reduceBEq, Bool.true_beq, Bool.false_beq, Vm.S, Nat.reduceLeDiff, q37]
      refine cond_intro (fun hcc => ?_) (fun hcc => ?_)
      · have hlt : i < n := by have := of_decide_eq_true hcc; omega
        have hw : IntKind.i64.wrap ((i : Int) + 1) = ((i + 1 : Nat) : Int) := by rw [wrap_i64 (by omega) (by omega)]; simp
        have hll := linesAt_length hli
        have hsuc : linesAt f id (i + 1) = (lineAt f id i).map fun x => l ++ [x] := by
          show (linesAt f id i).bind _ = _
          rw [hli]; rfl
        simp -dsimp only [Vm.E, List.lookup, Nat.reduceAdd, Nat.reduceBEq, Int.reduceBNe, Int.reduceBEq, Bool.true_beq, Bool.false_beq, Vm.S, Nat.reduceLeDiff, q37]
        refine call_one (S := dlineSpec) rfl _ GaL.rfl ⟨V, f, id, (i : Nat), rfl, hV, fun x hx => ?_, fun hx => ?_⟩
        · rw [hx] at hsuc
          have hsuc : linesAt f id (i + 1) = some (l ++ [x]) := hsuc
          have hgi : (l.map dlAv ++ List.replicate (n - i) (dlAv .zero))[i]? = some (dlAv .zero) := by
            rw [List.getElem?_append_right (by simp; omega), List.length_map, hll, Nat.sub_self, List.getElem?_replicate, if_pos (by omega)]
          have hre : (l.map dlAv ++ List.replicate (n - i) (dlAv .zero)).set i (dlAv x) = (l ++ [x]).map dlAv ++ List.replicate (n - (i + 1)) (dlAv .zero) := by
            rw [List.set_append_right _ _ (by simp; omega), List.length_map, hll, Nat.sub_self, show n - i = (n - (i + 1)) + 1 by omega, List.replicate_succ, List.set_cons_zero]
            simp
          simp only [dlCells]
          simp -dsimp only [Vm.E, List.lookup, Nat.reduceAdd, Nat.reduceBEq, Int.reduceBNe, Int.reduceBEq, Bool.true_beq, Bool.false_beq, Vm.S, Nat.reduceLeDiff, q37]
          refine idxO_intro (by omega) (by simp; omega) ?_
          simp -dsimp only [Vm.E, List.lookup, Nat.reduceAdd, Nat.reduceBEq, Int.reduceBNe, Int.reduceBEq, Bool.true_beq, Bool.false_beq, Vm.S, Nat.reduceLeDiff, q37, Int.toNat_natCast]
          refine store_elt 62 _ (by simp -dsimp only [Vm.E, List.lookup, Nat.reduceAdd, Nat.reduceBEq, Int.reduceBNe, Int.reduceBEq, Bool.true_beq, Bool.false_beq]) (y := dlAv .zero) hgi rfl rfl (by omega) rfl ?_
          simp only [dlAv, dlCells, AV.cells, putCells, reCell, List.take_zero, List.nil_append, List.length_cons, List.length_nil, Nat.zero_add, Nat.reduceAdd, List.drop_succ_cons, List.drop_zero, List.append_nil, List.drop_nil]
          simp only [dlAv, dlCells] at hre
          simp -dsimp only [Vm.E, List.lookup, Nat.reduceAdd, Nat.reduceBEq, Int.reduceBNe, Int.reduceBEq, Bool.true_beq, Bool.false_beq, Vm.S, Nat.reduceLeDiff, q37, hre]
          refine kept_intro ⟨n - (i + 1), by omega, _, le_mk [(1, .v (.int .i64 id)), (7, .box [.ptr V.iv 0]), (8, .box [.v (.int .i64 d.id), .v (.int .i64 d.kind), .v (.int .i64 d.year), .v (.int .i64 d.frm), .v (.int .i64 d.lines)]), (10, .own true 62 4 ((l ++ [x]).map dlAv ++ List.replicate (n - (i + 1)) (dlAv .zero))), (29, .v (.int .i64 (n : Nat))), (30, .v (.int .i64 (i + 1 : Nat))), (4, .box [.v (.int .i64 0), .v (.int .i64 0), .v (.int .i64 0), .v (.int .i64 0), .v (.int .i64 0)])] ?_, i + 1, l ++ [x], by omega, rfl, hsuc, rfl⟩
          simp only [List.forall_mem_cons, List.not_mem_nil, false_imp_iff, implies_true, and_true, hw, dlAv, dlCells]
          try simp -dsimp only [Vm.E, List.lookup, Nat.reduceAdd, Nat.reduceBEq, Int.reduceBNe, Int.reduceBEq, Bool.true_beq, Bool.false_beq, Vm.S, Nat.reduceLeDiff, q37, hw, dlAv, dlCells]
          repeat' first | exact Fg.refl _ | exact Fg.nil _ _ _ (by decide) | refine And.intro ?_ ?_
        · rw [hx] at hsuc
          rw [linesAt_none (m := n) (by omega) hsuc] at hq2
          simp only [dlCells]
          simp -dsimp only [Vm.E, List.lookup, Nat.reduceAdd, Nat.reduceBEq, Int.reduceBNe, Int.reduceBEq, Bool.true_beq, Bool.false_beq, Vm.S, Nat.reduceLeDiff, q37]
          exact hq2 rfl
      · have hge : ¬ i < n := by have := of_decide_eq_false hcc; omega
        obtain rfl : i = n := by omega
        rw [hli] at hq1
        have hll := linesAt_length hli
        have hq := hq1 d l rfl (by omega) (by omega)
        clear hq1 hq2
        rw [Nat.sub_self, List.replicate_zero, List.append_nil]
        simp -dsimp only [Vm.E, List.lookup, Nat.reduceAdd, Nat.reduceBEq, Int.reduceBNe, Int.reduceBEq, Bool.true_beq, Bool.false_beq, Vm.S, Nat.reduceLeDiff, q37]
        exact hq
  · rw [hd] at hq2
    simp only [dcCells]
    simp -dsimp only [Vm.E, List.lookup, Nat.reduceAdd, Nat.reduceBEq, Int.reduceBNe, Int.reduceBEq, Bool.true_beq, Bool.false_beq, Vm.S, Nat.reduceLeDiff, q37]
    exact hq2 rfl
/-- The number of a document of a year and a kind. -/
def ofYK (year kind : Int) (p : KV) : Option Int := (docOf p.1 p.2).bind fun d => if d.year = year ∧ d.kind = kind then some d.id else none
abbrev allD (year kind : Int) (l : List KV) : List Int := l.filterMap (ofYK year kind)
def docsAllSpec : Vm.Spec := fun args h Q => ∃ (V : VId) (f : Fun) (year kind : Int), args = [.ptr V.iv 0, .v (.int .i64 year), .v (.int .i64 kind)] ∧ isView h V f ∧ f.n ≤ 536870912 ∧
  ∀ l h', ScanIs f [68] l → l.length ≤ 2 * f.n → isView h' V f → Same h h' [] → Q (.own true 3 1 ((allD year kind l).map encI)) h'
set_option maxRecDepth 20000 in
set_option maxHeartbeats 1000000 in
theorem does_docsAll : Does Tryz.prog 39 docsAllSpec := by
  refine does_of_awp (good_cons does_scan (good_cons does_docOf good_nil)) Tryz.func39 rfl (by decide +kernel) (by decide +kernel) ?_
  rintro args h Q ⟨V, f, year, kind, rfl, hV, hn, hq⟩
  refine ⟨by simp [Tryz.f39], ?_⟩
  rw [awpFunc_some (by rfl)]
  simp -dsimp only [Vm.E, List.lookup, Nat.reduceAdd, Nat.reduceBEq, Int.reduceBNe, Int.reduceBEq, Bool.true_beq, Bool.false_beq, Vm.S, Nat.reduceLeDiff, q39]
  refine bs_intro zr5 (by decide) (by decide) rfl rfl (by simp [solid, AV.cells]) ?_
  simp -dsimp only [Vm.E, List.lookup, Nat.reduceAdd, Nat.reduceBEq, Int.reduceBNe, Int.reduceBEq, Bool.true_beq, Bool.false_beq, Vm.S, Nat.reduceLeDiff, q39]
  refine call_one (S := scanSpec) rfl _ GaL.rfl ⟨V, f, [68], rfl, by simp, hV, hn, fun l h1 hsc hln hV1 hs1 => ?_⟩
  simp -dsimp only [Vm.E, List.lookup, Nat.reduceAdd, Nat.reduceBEq, Int.reduceBNe, Int.reduceBEq, Bool.true_beq, Bool.false_beq, Vm.S, Nat.reduceLeDiff, q39]
  refine awp_loop (fun m s h' => ∃ i : Nat, i + m = l.length ∧ h' = h1 ∧ s = mk [(1, .v (.int .i64 year)), (2, .v (.int .i64 kind)), (7, .own true 3 1 ((allD year kind (l.take (i))).map encI)), (14, .own true 155 2 (l.map kvAv)), (15, .v (.int .i64 l.length)), (16, .v (.int .i64 (i : Nat)))])
    l.length _ (le_mk _ ?_) ⟨0, by omega, rfl, rfl⟩ ?_
  · simp only [List.forall_mem_cons, List.not_mem_nil, false_imp_iff, implies_true, and_true]
    try simp -dsimp only [Vm.E, List.lookup, Nat.reduceAdd, Nat.reduceBEq, Int.reduceBNe, Int.reduceBEq, Bool.true_beq, Bool.false_beq, Vm.S, Nat.reduceLeDiff, q39]
    repeat' first | exact Fg.refl _ | exact Fg.nil _ _ _ (by decide) | refine And.intro ?_ ?_
  · rintro m s h' ⟨i, hi, rfl, rfl⟩
    simp -dsimp only [Vm.E, List.lookup, Nat.reduceAdd, Nat.reduceBEq, Int.reduceBNe, Int.reduceBEq, Bool.true_beq, Bool.false_beq, Vm.S, Nat.reduceLeDiff, q39]
    refine cond_intro (fun hcc => ?_) (fun hcc => ?_)
    · have hlt : i < l.length := by have := of_decide_eq_true hcc; omega
      have hw : IntKind.i64.wrap ((i : Int) + 1) = ((i + 1 : Nat) : Int) := by rw [wrap_i64 (by omega) (by omega)]; simp
      have hget : (l.map kvAv)[i]? = some (kvAv l[i]) := by simp [hlt]
      have est := filterMap_step (ofYK year kind) l i hlt
      have hal : (allD year kind (l.take i)).length ≤ i := filterMap_le (ofYK year kind) l i
      have hin := ((hsc.2 l[i].1 l[i].2).1 (List.getElem_mem hlt)).1
      have hkl : l[i].1.length ≤ 32 := hV.klen hin
      have hvl : l[i].2.length ≤ 120 := hV.len _ _ hin
      clear hin
      generalize l[i] = p at hget est hkl hvl
      obtain ⟨k, v⟩ := p
      simp only at hkl hvl
      have e0 : ofYK year kind (k, v) = (docOf k v).bind fun d => if d.year = year ∧ d.kind = kind then some d.id else none := rfl
      rw [e0] at est
      clear e0
      simp -dsimp only [Vm.E, List.lookup, Nat.reduceAdd, Nat.reduceBEq, Int.reduceBNe, Int.reduceBEq, Bool.true_beq, Bool.false_beq, Vm.S, Nat.reduceLeDiff, q39]
      refine idxO_intro (by omega) (by simp; omega) ?_
      simp -dsimp only [Vm.E, List.lookup, Nat.reduceAdd, Nat.reduceBEq, Int.reduceBNe, Int.reduceBEq, Bool.true_beq, Bool.false_beq, Vm.S, Nat.reduceLeDiff, q39, Int.toNat_natCast]
      refine eltA_intro hget ?_
      simp only [kvAv]
      simp -dsimp only [Vm.E, List.lookup, Nat.reduceAdd, Nat.reduceBEq, Int.reduceBNe, Int.reduceBEq, Bool.true_beq, Bool.false_beq, Vm.S, Nat.reduceLeDiff, q39, AV.cells, List.drop_zero]
      refine call_one (S := docOfSpec) rfl _ GaL.rfl ⟨k, v, by omega, by omega, rfl, fun d hd => ?_, fun hd => ?_⟩
      · rw [hd, Option.bind_some] at est
        simp only [dcCells]
        simp -dsimp only [Vm.E, List.lookup, Nat.reduceAdd, Nat.reduceBEq, Int.reduceBNe, Int.reduceBEq, Bool.true_beq, Bool.false_beq, Vm.S, Nat.reduceLeDiff, q39]
        have hd1 := Bool.eq_false_or_eq_true (d.year == year)
        rcases hd1 with c1 | c1
        · have d1 : d.year = year := by simpa using c1
          have hd2 := Bool.eq_false_or_eq_true (d.kind == kind)
          rcases hd2 with c2 | c2
          · have d2 : d.kind = kind := by simpa using c2
            rw [if_pos ⟨d1, d2⟩] at est
            simp -dsimp only [Vm.E, List.lookup, Nat.reduceAdd, Nat.reduceBEq, Int.reduceBNe, Int.reduceBEq, Bool.true_beq, Bool.false_beq, Vm.S, Nat.reduceLeDiff, q39, c1, c2]
            refine bs_intro zr3 (by decide) (by decide) rfl rfl (by simp [solid, AV.cells]) ?_
            simp -dsimp only [Vm.E, List.lookup, Nat.reduceAdd, Nat.reduceBEq, Int.reduceBNe, Int.reduceBEq, Bool.true_beq, Bool.false_beq, Vm.S, Nat.reduceLeDiff, q39]
            refine app_sl Tryz.underlying28 (by simp [AV.cells]) (by simp only [List.length_map, List.length_cons, List.length_nil]; omega) ?_
            simp -dsimp only [Vm.E, List.lookup, Nat.reduceAdd, Nat.reduceBEq, Int.reduceBNe, Int.reduceBEq, Bool.true_beq, Bool.false_beq, Vm.S, Nat.reduceLeDiff, q39]
            refine kept_intro ⟨l.length - (i + 1), by omega, _, le_mk [(1, .v (.int .i64 year)), (2, .v (.int .i64 kind)), (7, .own true 3 1 ((allD year kind (l.take (i + 1))).map encI)), (14, .own true 155 2 (l.map kvAv)), (15, .v (.int .i64 l.length)), (16, .v (.int .i64 (i + 1 : Nat)))] ?_, i + 1, by omega, rfl, rfl⟩
            simp only [List.forall_mem_cons, List.not_mem_nil, false_imp_iff, implies_true, and_true, hw, est, Option.toList, List.append_nil, List.map_append, List.map_cons, List.map_nil, encI]
            try simp -dsimp only [Vm.E, List.lookup, Nat.reduceAdd, Nat.reduceBEq, Int.reduceBNe, Int.reduceBEq, Bool.true_beq, Bool.false_beq, Vm.S, Nat.reduceLeDiff, q39, hw, est, Option.toList, List.append_nil, List.map_append, List.map_cons, List.map_nil, encI]
            repeat' first | exact Fg.refl _ | exact Fg.nil _ _ _ (by decide) | refine And.intro ?_ ?_
          · have d2 : ¬ d.kind = kind := by simpa using c2
            rw [if_neg (fun hc => d2 hc.2)] at est
            simp -dsimp only [Vm.E, List.lookup, Nat.reduceAdd, Nat.reduceBEq, Int.reduceBNe, Int.reduceBEq, Bool.true_beq, Bool.false_beq, Vm.S, Nat.reduceLeDiff, q39, c1, c2]
            refine kept_intro ⟨l.length - (i + 1), by omega, _, le_mk [(1, .v (.int .i64 year)), (2, .v (.int .i64 kind)), (7, .own true 3 1 ((allD year kind (l.take (i + 1))).map encI)), (14, .own true 155 2 (l.map kvAv)), (15, .v (.int .i64 l.length)), (16, .v (.int .i64 (i + 1 : Nat)))] ?_, i + 1, by omega, rfl, rfl⟩
            simp only [List.forall_mem_cons, List.not_mem_nil, false_imp_iff, implies_true, and_true, hw, est, Option.toList, List.append_nil, List.map_append, List.map_cons, List.map_nil, encI]
            try simp -dsimp only [Vm.E, List.lookup, Nat.reduceAdd, Nat.reduceBEq, Int.reduceBNe, Int.reduceBEq, Bool.true_beq, Bool.false_beq, Vm.S, Nat.reduceLeDiff, q39, hw, est, Option.toList, List.append_nil, List.map_append, List.map_cons, List.map_nil, encI]
            repeat' first | exact Fg.refl _ | exact Fg.nil _ _ _ (by decide) | refine And.intro ?_ ?_
        · have d1 : ¬ d.year = year := by simpa using c1
          rw [if_neg (fun hc => d1 hc.1)] at est
          simp -dsimp only [Vm.E, List.lookup, Nat.reduceAdd, Nat.reduceBEq, Int.reduceBNe, Int.reduceBEq, Bool.true_beq, Bool.false_beq, Vm.S, Nat.reduceLeDiff, q39, c1]
          refine kept_intro ⟨l.length - (i + 1), by omega, _, le_mk [(1, .v (.int .i64 year)), (2, .v (.int .i64 kind)), (7, .own true 3 1 ((allD year kind (l.take (i + 1))).map encI)), (14, .own true 155 2 (l.map kvAv)), (15, .v (.int .i64 l.length)), (16, .v (.int .i64 (i + 1 : Nat)))] ?_, i + 1, by omega, rfl, rfl⟩
          simp only [List.forall_mem_cons, List.not_mem_nil, false_imp_iff, implies_true, and_true, hw, est, Option.toList, List.append_nil, List.map_append, List.map_cons, List.map_nil, encI]
          try simp -dsimp only [Vm.E, List.lookup, Nat.reduceAdd, Nat.reduceBEq, Int.reduceBNe, Int.reduceBEq, Bool.true_beq, Bool.false_beq, Vm.S, Nat.reduceLeDiff, q39, hw, est, Option.toList, List.append_nil, List.map_append, List.map_cons, List.map_nil, encI]
          repeat' first | exact Fg.refl _ | exact Fg.nil _ _ _ (by decide) | refine And.intro ?_ ?_
      · rw [hd, Option.bind_none] at est
        simp only [dcCells, Dc.zero]
        simp -dsimp only [Vm.E, List.lookup, Nat.reduceAdd, Nat.reduceBEq, Int.reduceBNe, Int.reduceBEq, Bool.true_beq, Bool.false_beq, Vm.S, Nat.reduceLeDiff, q39]
        refine kept_intro ⟨l.length - (i + 1), by omega, _, le_mk [(1, .v (.int .i64 year)), (2, .v (.int .i64 kind)), (7, .own true 3 1 ((allD year kind (l.take (i + 1))).map encI)), (14, .own true 155 2 (l.map kvAv)), (15, .v (.int .i64 l.length)), (16, .v (.int .i64 (i + 1 : Nat)))] ?_, i + 1, by omega, rfl, rfl⟩
        simp only [List.forall_mem_cons, List.not_mem_nil, false_imp_iff, implies_true, and_true, hw, est, Option.toList, List.append_nil, List.map_append, List.map_cons, List.map_nil, encI]
        try simp -dsimp only [Vm.E, List.lookup, Nat.reduceAdd, Nat.reduceBEq, Int.reduceBNe, Int.reduceBEq, Bool.true_beq, Bool.false_beq, Vm.S, Nat.reduceLeDiff, q39, hw, est, Option.toList, List.append_nil, List.map_append, List.map_cons, List.map_nil, encI]
        repeat' first | exact Fg.refl _ | exact Fg.nil _ _ _ (by decide) | refine And.intro ?_ ?_
    · have hge : ¬ i < l.length := by have := of_decide_eq_false hcc; omega
      simp -dsimp only [Vm.E, List.lookup, Nat.reduceAdd, Nat.reduceBEq, Int.reduceBNe, Int.reduceBEq, Bool.true_beq, Bool.false_beq, Vm.S, Nat.reduceLeDiff, q39]
      rw [List.take_of_length_le (by omega)]
      exact hq l h' hsc hln hV1 hs1
def openD (x : Dl) : Int := w64 (x.orig - w64 (x.liq + x.can))
def openDSpec : Vm.Spec := fun args h Q => ∃ x : Dl, args = [dlAv x] ∧ Q (.v (.int .i64 (openD x))) h
theorem does_docsOpen : Does Tryz.prog 48 openDSpec := by
  refine does_of_awp good_nil Tryz.func48 rfl (by decide +kernel) (by decide +kernel) ?_
  rintro args h Q ⟨x, rfl, hq⟩
  refine ⟨by simp [Tryz.f48], ?_⟩
  rw [awpFunc_some (by rfl)]
  simp only [dlAv, dlCells]
  simp -dsimp only [Vm.E, List.lookup, Nat.reduceAdd, Nat.reduceBEq, Int.reduceBNe, Int.reduceBEq, Bool.true_beq, Bool.false_beq, Vm.S, Nat.reduceLeDiff, q48]
  exact hq
def inD (n : Int) : Bool := decide (n ≥ 0) && decide (n ≤ 1152921504606846976)
def rightD (x : Dl) : Bool := inD x.orig && (inD x.liq && (inD x.can && inD (openD x)))
def rightDSpec : Vm.Spec := fun args h Q => ∃ x : Dl, args = [dlAv x] ∧ Q (.v (.bool (rightD x))) h
def fourD (x : Dl) : List Int := [x.orig, x.liq, x.can, openD x]
theorem rightD_four (x : Dl) : rightD x = (fourD x).all inD := by
  unfold rightD fourD
  simp [List.all_cons]
set_option maxRecDepth 20000 in
set_option maxHeartbeats 2000000 in
theorem does_docsRight : Does Tryz.prog 50 rightDSpec := by
  refine does_of_awp (good_cons does_docsOpen good_nil) Tryz.func50 rfl (by decide +kernel) (by decide +kernel) ?_
  rintro args h Q ⟨x, rfl, hq⟩
  refine ⟨by simp [Tryz.f50], ?_⟩
  rw [awpFunc_some (by rfl)]
  rw [rightD_four] at hq
  simp only [dlAv, dlCells]
  simp -dsimp only [Vm.E, List.lookup, Nat.reduceAdd, Nat.reduceBEq, Int.reduceBNe, Int.reduceBEq, Bool.true_beq, Bool.false_beq, Vm.S, Nat.reduceLeDiff, q50]
  refine draw_cont [1] (.take 0 (.take 1 (.take 2 (.take 3 (.take 4 (.take 5 (.take 6 (.take 9 (.alt 7 (.alt 8 (.done) .stop) .stop))))))))) (fun s h2 => h2 = h ∧ s 2 = .v (.bool false) ∧ s 13 = .agg ((fourD x).map encI) ∧ s 14 = .v (.int .i64 0)) (by kernel_rfl) (by kernel_rfl) (by kernel_rfl) (by decide) ?_ ?_
  · clear hq
    simp only [fourD, List.map_cons, List.map_nil, encI]
    repeat' first
      | with_reducible exact True.intro
      | refine call_one (S := openDSpec) rfl _ GaL.rfl ⟨x, rfl, ?_⟩
      | simp -dsimp only [Vm.E, List.lookup, Nat.reduceAdd, Nat.reduceBEq, Int.reduceBNe, Int.reduceBEq, Bool.true_beq, Bool.false_beq, Vm.S, Nat.reduceLeDiff, q50]
      | refine tree_alt ?_ ?_
      | repeat' first | rfl | exact True.intro | refine And.intro ?_ ?_
  · rintro s h2 ⟨rfl, e2, e13, e14⟩
    have h4 : (fourD x).length = 4 := rfl
    generalize fourD x = l at h4 hq e13
    simp -dsimp only [Vm.E, List.lookup, Nat.reduceAdd, Nat.reduceBEq, Int.reduceBNe, Int.reduceBEq, Bool.true_beq, Bool.false_beq, Vm.S, Nat.reduceLeDiff, q50, e2, e13, e14]
    refine awp_loop (fun m s h' => ∃ i : Nat, i + m = 4 ∧ h' = h2 ∧ (∀ j (hj : j < l.length), j < i → inD l[j] = true) ∧ s = mk [(2, .v (.bool false)), (13, .agg (l.map encI)), (14, .v (.int .i64 (i : Nat)))])
      4 _ (le_mk _ ?_) ⟨0, by omega, rfl, fun j _ hj => by omega, rfl⟩ ?_
    · simp only [List.forall_mem_cons, List.not_mem_nil, false_imp_iff, implies_true, and_true, e2, e13, e14]
      try simp -dsimp only [Vm.E, List.lookup, Nat.reduceAdd, Nat.reduceBEq, Int.reduceBNe, Int.reduceBEq, Bool.true_beq, Bool.false_beq, Vm.S, Nat.reduceLeDiff, q50, e2, e13, e14]
      repeat' first | exact Fg.refl _ | exact Fg.nil _ _ _ (by decide) | refine And.intro ?_ ?_
    · clear e2 e13 e14
      rintro m s h' ⟨i, hi, rfl, hb, rfl⟩
      simp -dsimp only [Vm.E, List.lookup, Nat.reduceAdd, Nat.reduceBEq, Int.reduceBNe, Int.reduceBEq, Bool.true_beq, Bool.false_beq, Vm.S, Nat.reduceLeDiff, q50]
      refine cond_intro (fun hcc => ?_) (fun hcc => ?_)
      · have hlt : i < l.length := by have := of_decide_eq_true hcc; omega
        have hw : IntKind.i64.wrap ((i : Int) + 1) = ((i + 1 : Nat) : Int) := by rw [wrap_i64 (by omega) (by omega)]; simp
        have hget : (l.map encI)[(i : Int).toNat]? = some (encI l[i]) := by simp [hlt]
        have hno : inD l[i] = false → l.all inD = false := fun hp => List.all_eq_false.2 ⟨l[i], List.getElem_mem hlt, by rw [hp]; decide⟩
        have hyes : inD l[i] = true → ∀ j (hj : j < l.length), j < i + 1 → inD l[j] = true := fun hp j hj hj2 => by
          by_cases hji : j = i
          · subst hji; exact hp
          · exact hb j hj (by omega)
        generalize l[i] = n at hget hno hyes
        simp only [encI] at hget
        simp -dsimp only [Vm.E, List.lookup, Nat.reduceAdd, Nat.reduceBEq, Int.reduceBNe, Int.reduceBEq, Bool.true_beq, Bool.false_beq, Vm.S, Nat.reduceLeDiff, q50]
        refine index_arr un174 un3 (by kernel_rfl) (by omega) (by omega) hget ?_
        simp -dsimp only [Vm.E, List.lookup, Nat.reduceAdd, Nat.reduceBEq, Int.reduceBNe, Int.reduceBEq, Bool.true_beq, Bool.false_beq, Vm.S, Nat.reduceLeDiff, q50]
        have hd1 := Bool.eq_false_or_eq_true (decide (n < 0))
        rcases hd1 with c1 | c1
        · have d1 := of_decide_eq_true c1
          rw [hno (by unfold inD; rw [decide_eq_false (p := n ≥ 0) (by omega)]; rfl)] at hq
          simp -dsimp only [Vm.E, List.lookup, Nat.reduceAdd, Nat.reduceBEq, Int.reduceBNe, Int.reduceBEq, Bool.true_beq, Bool.false_beq, Vm.S, Nat.reduceLeDiff, q50, c1]
          exact hq
        · have d1 := of_decide_eq_false c1
          have hd2 := Bool.eq_false_or_eq_true (decide (n > 1152921504606846976))
          rcases hd2 with c2 | c2
          · have d2 := of_decide_eq_true c2
            rw [hno (by unfold inD; rw [decide_eq_true (p := n ≥ 0) (by omega), decide_eq_false (by omega)]; rfl)] at hq
            simp -dsimp only [Vm.E, List.lookup, Nat.reduceAdd, Nat.reduceBEq, Int.reduceBNe, Int.reduceBEq, Bool.true_beq, Bool.false_beq, Vm.S, Nat.reduceLeDiff, q50, c1, c2]
            exact hq
          · have d2 := of_decide_eq_false c2
            have hin : inD n = true := by unfold inD; rw [decide_eq_true (p := n ≥ 0) (by omega), decide_eq_true (by omega)]; rfl
            simp -dsimp only [Vm.E, List.lookup, Nat.reduceAdd, Nat.reduceBEq, Int.reduceBNe, Int.reduceBEq, Bool.true_beq, Bool.false_beq, Vm.S, Nat.reduceLeDiff, q50, c1, c2]
            refine kept_intro ⟨4 - (i + 1), by omega, _, le_mk [(2, .v (.bool false)), (13, .agg (l.map encI)), (14, .v (.int .i64 (i + 1 : Nat)))] ?_, i + 1, by omega, rfl, hyes hin, rfl⟩
            simp only [List.forall_mem_cons, List.not_mem_nil, false_imp_iff, implies_true, and_true, hw]
            try simp -dsimp only [Vm.E, List.lookup, Nat.reduceAdd, Nat.reduceBEq, Int.reduceBNe, Int.reduceBEq, Bool.true_beq, Bool.false_beq, Vm.S, Nat.reduceLeDiff, q50, hw]
            repeat' first | exact Fg.refl _ | exact Fg.nil _ _ _ (by decide) | refine And.intro ?_ ?_
      · have hge : ¬ i < 4 := by have := of_decide_eq_false hcc; omega
        have hall : l.all inD = true := List.all_eq_true.2 fun y hy => by
          obtain ⟨j, hj, rfl⟩ := List.getElem_of_mem hy
          exact hb j hj (by omega)
        rw [hall] at hq
        simp -dsimp only [Vm.E, List.lookup, Nat.reduceAdd, Nat.reduceBEq, Int.reduceBNe, Int.reduceBEq, Bool.true_beq, Bool.false_beq, Vm.S, Nat.reduceLeDiff, q50]
        exact hq
end Go.Proofs.Lx
/- Documents, the reference's: ref30. -/
set_option linter.unusedSimpArgs false
set_option linter.unusedVariables false
namespace Go.Proofs.Lx
open Go.Vm
attribute [local irreducible] awpArr awpBin awpMake awpAppend awpCvX awpStrOf awpBinX awpSlice awpBS awpStore awpAlloc awpCopy awpIndex awpDraw awpIdxX awpFa awpField awpLookup awpUpdate awpDelete awpClear awpRange awpNext awpEntry awpBuild awpClearS awpIdxL awpTree appB awpIdxO eltA treeA
theorem does_rDl : Does Tryz.prog 117 rdlSpec := by
  refine does_of_awp (good_cons does_rPair good_nil) Tryz.func117 rfl (by decide +kernel) (by decide +kernel) ?_
  rintro args h Q ⟨id, i, x, hid, hi, ⟨o1, o2, o3, o4⟩, rfl, hq⟩
  refine ⟨by simp [Tryz.f117], ?_⟩
  rw [awpFunc_some (by rfl)]
  simp only [dlAv, dlCells]
  simp -dsimp only [Vm.E, List.lookup, Nat.reduceAdd, Nat.reduceBEq, Int.reduceBNe, Int.reduceBEq, Bool.true_beq, Bool.false_beq, Vm.S, Nat.reduceLeDiff, q117]
  refine bs_intro zr3 (by decide) (by decide) rfl rfl (by simp [solid, AV.cells]) ?_
  simp -dsimp only [Vm.E, List.lookup, Nat.reduceAdd, Nat.reduceBEq, Int.reduceBNe, Int.reduceBEq, Bool.true_beq, Bool.false_beq, Vm.S, Nat.reduceLeDiff, q117]
  refine bs_intro zr3 (by decide) (by decide) rfl rfl (by simp [solid, AV.cells]) ?_
  simp -dsimp only [Vm.E, List.lookup, Nat.reduceAdd, Nat.reduceBEq, Int.reduceBNe, Int.reduceBEq, Bool.true_beq, Bool.false_beq, Vm.S, Nat.reduceLeDiff, q117]
  refine call_one (S := rPairSpec) rfl _ GaL.rfl ⟨76, [id, i], [x.node, x.orig, x.liq, x.can], by simp, by simp, ?_, rfl, ?_⟩
  · intro m hm
    simp only [List.mem_cons, List.not_mem_nil, or_false] at hm
    rcases hm with rfl | rfl | rfl | rfl <;> assumption
  · simp -dsimp only [Vm.E, List.lookup, Nat.reduceAdd, Nat.reduceBEq, Int.reduceBNe, Int.reduceBEq, Bool.true_beq, Bool.false_beq, Vm.S, Nat.reduceLeDiff, q117]
    exact hq
theorem does_rDc : Does Tryz.prog 118 rdcSpec := by
  refine does_of_awp (good_cons does_rPair good_nil) Tryz.func118 rfl (by decide +kernel) (by decide +kernel) ?_
  rintro args h Q ⟨d, ⟨o1, o2, o3, o4, o5⟩, rfl, hq⟩
  refine ⟨by simp [Tryz.f118], ?_⟩
  rw [awpFunc_some (by rfl)]
  simp only [dcCells]
  simp -dsimp only [Vm.E, List.lookup, Nat.reduceAdd, Nat.reduceBEq, Int.reduceBNe, Int.reduceBEq, Bool.true_beq, Bool.false_beq, Vm.S, Nat.reduceLeDiff, q118]
  refine bs_intro zr3 (by decide) (by decide) rfl rfl (by simp [solid, AV.cells]) ?_
  simp -dsimp only [Vm.E, List.lookup, Nat.reduceAdd, Nat.reduceBEq, Int.reduceBNe, Int.reduceBEq, Bool.true_beq, Bool.false_beq, Vm.S, Nat.reduceLeDiff, q118]
  refine bs_intro zr3 (by decide) (by decide) rfl rfl (by simp [solid, AV.cells]) ?_
  simp -dsimp only [Vm.E, List.lookup, Nat.reduceAdd, Nat.reduceBEq, Int.reduceBNe, Int.reduceBEq, Bool.true_beq, Bool.false_beq, Vm.S, Nat.reduceLeDiff, q118]
  refine call_one (S := rPairSpec) rfl _ GaL.rfl ⟨68, [d.id], [d.kind, d.year, d.frm, d.lines], by simp, by simp, ?_, rfl, ?_⟩
  · intro m hm
    simp only [List.mem_cons, List.not_mem_nil, or_false] at hm
    rcases hm with rfl | rfl | rfl | rfl <;> assumption
  · simp -dsimp only [Vm.E, List.lookup, Nat.reduceAdd, Nat.reduceBEq, Int.reduceBNe, Int.reduceBEq, Bool.true_beq, Bool.false_beq, Vm.S, Nat.reduceLeDiff, q118]
    exact hq
def rDocsPutSpec : Vm.Spec := fun args h Q => ∃ (R : RId) (f : Fun) (d : Dc) (l : List Dl), d.ok ∧ (∀ x ∈ l, x.ok) ∧ args = [.ptr R.iv 0, .agg (dcCells d), .sl 4 (l.map dlAv)] ∧ isRef h R f ∧ f.n ≤ 536870900 ∧
  ∀ h', isRef h' R (docsPut f d l).1 → Same h h' (rFoot R) → Q (.tup [.v (.int .i64 (docsPut f d l).2.1), .v (.int .i64 (docsPut f d l).2.2)]) h'
set_option maxRecDepth 20000 in
set_option maxHeartbeats 2000000 in
theorem does_rDocsPut : Does Tryz.prog 42 rDocsPutSpec := by
  refine does_of_awp (good_cons does_rNext (good_cons does_rDl (good_cons does_rSet (good_cons does_rDc good_nil)))) Tryz.func42 rfl (by decide +kernel) (by decide +kernel) ?_
  rintro args h Q ⟨R, f, d, l, hd, hx, rfl, hR, hfn, hq⟩
  refine ⟨by simp [Tryz.f42], ?_⟩
  rw [awpFunc_some (by rfl)]
  unfold docsPut at hq
  simp only [dcCells]
  simp -dsimp only [Vm.E, List.lookup, Nat.reduceAdd, Nat.reduceBEq, Int.reduceBNe, Int.reduceBEq, Bool.true_beq, Bool.false_beq, Vm.S, Nat.reduceLeDiff, q42]
  have hd0 := Bool.eq_false_or_eq_true (decide ((l.length : Int) < 1))
  rcases hd0 with c0 | c0
  · have d0 := of_decide_eq_true c0
    simp only [if_pos (show l.length = 0 ∨ 6 < l.length from .inl (by omega))] at hq
    simp -dsimp only [Vm.E, List.lookup, Nat.reduceAdd, Nat.reduceBEq, Int.reduceBNe, Int.reduceBEq, Bool.true_beq, Bool.false_beq, Vm.S, Nat.reduceLeDiff, q42, c0]
    exact hq h hR (.refl _ _)
  · have d0 := of_decide_eq_false c0
    have hd6 := Bool.eq_false_or_eq_true (decide ((l.length : Int) > 6))
    rcases hd6 with c6 | c6
    · have d6 := of_decide_eq_true c6
      simp only [if_pos (show l.length = 0 ∨ 6 < l.length from .inr (by omega))] at hq
      simp -dsimp only [Vm.E, List.lookup, Nat.reduceAdd, Nat.reduceBEq, Int.reduceBNe, Int.reduceBEq, Bool.true_beq, Bool.false_beq, Vm.S, Nat.reduceLeDiff, q42, c0, c6]
      exact hq h hR (.refl _ _)
    · have d6 := of_decide_eq_false c6
      have hr := readOf_range f (seqKey 2)
      simp only [if_neg (show ¬ (l.length = 0 ∨ 6 < l.length) by omega)] at hq
      simp -dsimp only [Vm.E, List.lookup, Nat.reduceAdd, Nat.reduceBEq, Int.reduceBNe, Int.reduceBEq, Bool.true_beq, Bool.false_beq, Vm.S, Nat.reduceLeDiff, q42, c0, c6]
      refine call_one (S := rNextSpec) rfl _ GaL.rfl ⟨R, f, 2, rfl, hR, by omega, fun hr => ?_, fun hn h1 g1 g2 => ?_⟩
      · simp only [if_pos hr] at hq
        simp -dsimp only [Vm.E, List.lookup, Nat.reduceAdd, Nat.reduceBEq, Int.reduceBNe, Int.reduceBEq, Bool.true_beq, Bool.false_beq, Vm.S, Nat.reduceLeDiff, q42]
        exact hq h hR (.refl _ _)
      · simp only [if_neg hn] at hq
        unfold docsF at hq
        have hidr : I64 (readOf f (seqKey 2) + 1) := by unfold I64 at hr ⊢; omega
        have hf1 : (upd f (seqKey 2) (some (be 8 (readOf f (seqKey 2) + 1)))).n = f.n + 1 := rfl
        generalize readOf f (seqKey 2) + 1 = id at hq g1 hidr hf1 ⊢
        generalize upd f (seqKey 2) (some (be 8 id)) = f1 at hq g1 hf1
        simp -dsimp only [Vm.E, List.lookup, Nat.reduceAdd, Nat.reduceBEq, Int.reduceBNe, Int.reduceBEq, Bool.true_beq, Bool.false_beq, Vm.S, Nat.reduceLeDiff, q42]
        refine awp_loop (fun m s h' => ∃ (i : Nat) (g : Fun), i + m = l.length ∧ isRef h' R g ∧ g.n ≤ f.n + 1 + i ∧ Same h h' (rFoot R) ∧ putLines id i (l.drop i) g = putLines id 0 l f1 ∧ s = mk [(0, .ptr R.iv 0), (2, .sl 4 (l.map dlAv)), (4, .box [.v (.int .i64 d.id), .v (.int .i64 d.kind), .v (.int .i64 d.year), .v (.int .i64 d.frm), .v (.int .i64 d.lines)]), (8, .v (.int .i64 id)), (10, .v (.int .i64 (i : Nat)))])
          l.length _ (le_mk _ ?_) ⟨0, f1, by omega, g1, by omega, g2, rfl, rfl⟩ ?_
        · simp only [List.forall_mem_cons, List.not_mem_nil, false_imp_iff, implies_true, and_true]
          try simp -dsimp only [Vm.E, List.lookup, Nat.reduceAdd, Nat.reduceBEq, Int.reduceBNe, Int.reduceBEq, Bool.true_beq, Bool.false_beq, Vm.S, Nat.reduceLeDiff, q42]
          repeat' first | exact Fg.refl _ | exact Fg.nil _ _ _ (by decide) | refine And.intro ?_ ?_
        · clear g1 g2 hR
          rintro m s h' ⟨i, g, hi, hR, hgn, hsm, hp, rfl⟩
          simp -dsimp only [Vm.E, List.lookup, Nat.reduceAdd, Nat.reduceBEq, Int.reduceBNe, Int.reduceBEq, Bool.true_beq, Bool.false_beq, Vm.S, Nat.reduceLeDiff, q42]
          refine cond_intro (fun hcc => ?_) (fun hcc => ?_)
          · have hlt : i < l.length := by have := of_decide_eq_true hcc; omega
            have hw : IntKind.i64.wrap ((i : Int) + 1) = ((i + 1 : Nat) : Int) := by rw [wrap_i64 (by omega) (by omega)]; simp
            have hok := hx l[i] (List.getElem_mem hlt)
            rw [List.drop_eq_getElem_cons hlt] at hp
            simp -dsimp only [Vm.E, List.lookup, Nat.reduceAdd, Nat.reduceBEq, Int.reduceBNe, Int.reduceBEq, Bool.true_beq, Bool.false_beq, Vm.S, Nat.reduceLeDiff, q42]
            refine idx_map dlAv l i hlt ?_
            generalize l[i] = x at hok hp
            have hii : I64 (i : Int) := by unfold I64; omega
            have hun : (upd g (dlK id i) (some (dlV x))).n = g.n + 1 := rfl
            simp only [dlAv, dlCells]
            simp -dsimp only [Vm.E, List.lookup, Nat.reduceAdd, Nat.reduceBEq, Int.reduceBNe, Int.reduceBEq, Bool.true_beq, Bool.false_beq, Vm.S, Nat.reduceLeDiff, q42, AV.cells]
            refine call_one (S := rdlSpec) rfl _ GaL.rfl ⟨id, i, x, hidr, hii, hok, rfl, ?_⟩
            simp -dsimp only [Vm.E, List.lookup, Nat.reduceAdd, Nat.reduceBEq, Int.reduceBNe, Int.reduceBEq, Bool.true_beq, Bool.false_beq, Vm.S, Nat.reduceLeDiff, q42]
            refine call_one (S := rSetSpec) rfl _ GaL.rfl ⟨R, g, (dlK id i, dlV x), rfl, hR, by omega, fun h2 g1 g2 => ?_⟩
            rw [if_pos (right_dl id i x)] at g1
            simp -dsimp only [Vm.E, List.lookup, Nat.reduceAdd, Nat.reduceBEq, Int.reduceBNe, Int.reduceBEq, Bool.true_beq, Bool.false_beq, Vm.S, Nat.reduceLeDiff, q42]
            refine kept_intro ⟨l.length - (i + 1), by omega, _, le_mk [(0, .ptr R.iv 0), (2, .sl 4 (l.map dlAv)), (4, .box [.v (.int .i64 d.id), .v (.int .i64 d.kind), .v (.int .i64 d.year), .v (.int .i64 d.frm), .v (.int .i64 d.lines)]), (8, .v (.int .i64 id)), (10, .v (.int .i64 (i + 1 : Nat)))] ?_, i + 1, _, by omega, g1, by show (upd g (dlK id i) (some (dlV x))).n ≤ f.n + 1 + (i + 1); omega, hsm.trans g2, hp, rfl⟩
            simp only [List.forall_mem_cons, List.not_mem_nil, false_imp_iff, implies_true, and_true, hw]
            try simp -dsimp only [Vm.E, List.lookup, Nat.reduceAdd, Nat.reduceBEq, Int.reduceBNe, Int.reduceBEq, Bool.true_beq, Bool.false_beq, Vm.S, Nat.reduceLeDiff, q42, hw]
            repeat' first | exact Fg.refl _ | exact Fg.nil _ _ _ (by decide) | refine And.intro ?_ ?_
          · have hge : ¬ i < l.length := by have := of_decide_eq_false hcc; omega
            rw [List.drop_of_length_le (by omega)] at hp
            have hp : g = putLines id 0 l f1 := hp
            rw [← hp] at hq
            obtain ⟨o1, o2, o3, o4, o5⟩ := hd
            have hdok : ({ d with id := id, lines := (l.length : Int) } : Dc).ok := ⟨hidr, o2, o3, o4, by unfold I64; show -9223372036854775808 ≤ (l.length : Int) ∧ (l.length : Int) ≤ _; omega⟩
            simp -dsimp only [Vm.E, List.lookup, Nat.reduceAdd, Nat.reduceBEq, Int.reduceBNe, Int.reduceBEq, Bool.true_beq, Bool.false_beq, Vm.S, Nat.reduceLeDiff, q42]
            refine call_one (S := rdcSpec) rfl _ GaL.rfl ⟨{ d with id := id, lines := l.length }, hdok, rfl, ?_⟩
            simp -dsimp only [Vm.E, List.lookup, Nat.reduceAdd, Nat.reduceBEq, Int.reduceBNe, Int.reduceBEq, Bool.true_beq, Bool.false_beq, Vm.S, Nat.reduceLeDiff, q42]
            refine call_one (S := rSetSpec) rfl _ GaL.rfl ⟨R, g, (dcK id, dcV { d with id := id, lines := l.length }), rfl, hR, by omega, fun h2 g1 g2 => ?_⟩
            rw [if_pos (right_dc id _)] at g1
            simp -dsimp only [Vm.E, List.lookup, Nat.reduceAdd, Nat.reduceBEq, Int.reduceBNe, Int.reduceBEq, Bool.true_beq, Bool.false_beq, Vm.S, Nat.reduceLeDiff, q42]
            exact hq h2 g1 (hsm.trans g2)
end Go.Proofs.Lx
/- The law SeqnRises: walked. -/
set_option linter.unusedSimpArgs false
set_option linter.unusedVariables false
namespace Go.Proofs.Lx
open Go.Vm
attribute [local irreducible] awpArr awpBin awpMake awpAppend awpCvX awpStrOf awpBinX awpSlice awpBS awpStore awpAlloc awpCopy awpIndex awpDraw awpIdxX awpFa awpField awpLookup awpUpdate awpDelete awpClear awpRange awpNext awpEntry awpBuild
end Go.Proofs.Lx
/- The law SeqnGives. -/
set_option linter.unusedSimpArgs false
set_option linter.unusedVariables false
namespace Go.Proofs.Lx
open Go.Vm
attribute [local irreducible] awpArr awpBin awpMake awpAppend awpCvX awpStrOf awpBinX awpSlice awpBS awpStore awpAlloc awpCopy awpIndex awpDraw awpIdxX awpFa awpField awpLookup awpUpdate awpDelete awpClear awpRange awpNext awpEntry awpBuild awpClearS awpIdxL
end Go.Proofs.Lx
/- The law YearsLive. -/
set_option linter.unusedSimpArgs false
set_option linter.unusedVariables false
namespace Go.Proofs.Lx
open Go.Vm
attribute [local irreducible] awpArr awpBin awpMake awpAppend awpCvX awpStrOf awpBinX awpSlice awpBS awpStore awpAlloc awpCopy awpIndex awpDraw awpIdxX awpFa awpField awpLookup awpUpdate awpDelete awpClear awpRange awpNext awpEntry awpBuild awpClearS awpIdxL awpTree appB awpIdxO eltA treeA
theorem both_rnew {h : Heap} {V : VId} (hV : isView h V noF) : Both (rNewH h) V (rNewId h) noF := by
  refine ⟨by unfold rNewH; exact hV.more _, isRef_new h, fun i hi hm => ?_⟩
  obtain ⟨chg, clk, mem, clk2, h1, h2, h3, -⟩ := hV
  have a1 := get_lt h1
  have a2 := get_lt h2
  have a3 := get_lt h3
  simp only [rNewId, List.mem_cons, List.not_mem_nil, or_false] at hi hm
  omega
def rNewASpec : Vm.Spec := fun args h Q => ∃ V : VId, args = [.sl 2 []] ∧ isView h V noF ∧ ∀ (R : RId) (h' : Heap), Both h' V R noF → Q (.ptr R.iv 0) h'
theorem does_rNewA : Does Tryz.prog 21 rNewASpec := does_rNew.imp (by
  rintro args h Q ⟨V, rfl, hV, hq⟩
  exact ⟨rfl, hq (rNewId h) (rNewH h) (both_rnew hV)⟩)
theorem bool_neq {a b : Bool} {KV : Value → Prop} : awpBin Tryz.prog .neq 4 (.v (.bool a)) (.v (.bool b)) KV = KV (.bool (!(a == b))) := by simp [awpBin, Tryz.underlying4]
end Go.Proofs.Lx
/- The law PreOpen. -/
set_option linter.unusedSimpArgs false
set_option linter.unusedVariables false
namespace Go.Proofs.Lx
open Go.Vm
attribute [local irreducible] awpArr awpBin awpMake awpAppend awpCvX awpStrOf awpBinX awpSlice awpBS awpStore awpAlloc awpCopy awpIndex awpDraw awpIdxX awpFa awpField awpLookup awpUpdate awpDelete awpClear awpRange awpNext awpEntry awpBuild awpClearS awpIdxL awpTree appB awpIdxO eltA treeA
abbrev InR (n : Int) : Prop := 0 ≤ n ∧ n ≤ 4294967295
theorem keyOf_tag {t t' : UInt8} {l l' : List Int} (h : t ≠ t') : keyOf t l ≠ keyOf t' l' := fun e => by
  unfold keyOf at e
  exact h (List.cons.inj e).1
def yr20 (n : Nd) : Nd := { n with year := 2020 }
def putN (f : Fun) (n : Nd) : Fun := upd f (ndK (yr20 n)) (some (ndV (yr20 n)))
def begunF (l : List Nd) : Fun := l.foldl putN (openOf noF 2020).1
theorem begunF_n (l : List Nd) : (begunF l).n ≤ l.length + 1 := by
  have : ∀ (l : List Nd) (f : Fun), (l.foldl putN f).n = f.n + l.length := by
    intro l
    induction l with
    | nil => intro f; rfl
    | cons x r ih =>
      intro f
      rw [List.foldl_cons, ih]
      show f.n + 1 + r.length = _
      simp only [List.length_cons]; omega
  unfold begunF
  rw [this]
  have := open_n noF 2020
  have h0 : noF.n = 0 := rfl
  omega
def begunSpec : Vm.Spec := fun args h Q => ∃ l : List Nd, l.length ≤ 1048576 ∧ (∀ n ∈ l, n.ok) ∧ args = [.sl 12 (l.map ndAv)] ∧ ∀ (V : VId) (R : RId) (h' : Heap), Both h' V R (begunF l) → Q (.tup [.ptr V.iv 0, .ptr R.iv 0]) h'
set_option maxRecDepth 20000 in
set_option maxHeartbeats 1000000 in
theorem does_begun : Does Tryz.prog 70 begunSpec := by
  refine does_of_awp (good_cons does_vnewA (good_cons does_rNewA (good_cons does_yOpen (good_cons does_rOpen (good_cons does_tput (good_cons does_rtPut good_nil)))))) Tryz.func70 rfl (by decide +kernel) (by decide +kernel) ?_
  rintro args h Q ⟨l, hl, hok, rfl, hq⟩
  refine ⟨by simp [Tryz.f70], ?_⟩
  rw [awpFunc_some (by rfl)]
  simp -dsimp only [Vm.E, List.lookup, Nat.reduceAdd, Nat.reduceBEq, Int.reduceBNe, Int.reduceBEq, Bool.true_beq, Bool.false_beq, Vm.S, Nat.reduceLeDiff, q70]
  refine call_one (S := vnewASpec) rfl _ GaL.rfl ⟨rfl, fun V h00 hV00 => ?_⟩
  simp -dsimp only [Vm.E, List.lookup, Nat.reduceAdd, Nat.reduceBEq, Int.reduceBNe, Int.reduceBEq, Bool.true_beq, Bool.false_beq, Vm.S, Nat.reduceLeDiff, q70]
  refine call_one (S := rNewASpec) rfl _ (.cons (.nil 2) .nil) ⟨V, rfl, hV00, fun R h0 hB0 => ?_⟩
  clear hV00
  simp -dsimp only [Vm.E, List.lookup, Nat.reduceAdd, Nat.reduceBEq, Int.reduceBNe, Int.reduceBEq, Bool.true_beq, Bool.false_beq, Vm.S, Nat.reduceLeDiff, q70]
  refine call_one (S := yOpenSpec) rfl _ GaL.rfl ⟨V, noF, 2020, rfl, hB0.1, fun h1 g1 g2 => ?_⟩
  have hR1 := hB0.view g1 g2
  simp -dsimp only [Vm.E, List.lookup, Nat.reduceAdd, Nat.reduceBEq, Int.reduceBNe, Int.reduceBEq, Bool.true_beq, Bool.false_beq, Vm.S, Nat.reduceLeDiff, q70]
  refine call_one (S := rOpenSpec) rfl _ GaL.rfl ⟨R, noF, 2020, rfl, hR1, by decide, fun h2 g3 g4 => ?_⟩
  have hB1 := hB0.ref g1 g3 g4
  clear hB0 g1 g2 g3 g4 hR1
  simp -dsimp only [Vm.E, List.lookup, Nat.reduceAdd, Nat.reduceBEq, Int.reduceBNe, Int.reduceBEq, Bool.true_beq, Bool.false_beq, Vm.S, Nat.reduceLeDiff, q70]
  refine awp_loop (fun m s h' => ∃ i : Nat, i + m = l.length ∧ Both h' V R (begunF (l.take i)) ∧ s = mk [(4, .ptr V.iv 0), (5, .ptr R.iv 0), (14, .sl 12 (l.map ndAv)), (15, .v (.int .i64 l.length)), (16, .v (.int .i64 (i : Nat)))])
    l.length _ (le_mk _ ?_) ⟨0, by omega, hB1, rfl⟩ ?_
  · simp only [List.forall_mem_cons, List.not_mem_nil, false_imp_iff, implies_true, and_true]
    try simp -dsimp only [Vm.E, List.lookup, Nat.reduceAdd, Nat.reduceBEq, Int.reduceBNe, Int.reduceBEq, Bool.true_beq, Bool.false_beq, Vm.S, Nat.reduceLeDiff, q70]
    repeat' first | exact Fg.refl _ | exact Fg.nil _ _ _ (by decide) | refine And.intro ?_ ?_
  · clear hB1
    rintro m s h' ⟨i, hi, hB, rfl⟩
    simp -dsimp only [Vm.E, List.lookup, Nat.reduceAdd, Nat.reduceBEq, Int.reduceBNe, Int.reduceBEq, Bool.true_beq, Bool.false_beq, Vm.S, Nat.reduceLeDiff, q70]
    refine cond_intro (fun hcc => ?_) (fun hcc => ?_)
    · have hlt : i < l.length := by have := of_decide_eq_true hcc; omega
      have hw : IntKind.i64.wrap ((i : Int) + 1) = ((i + 1 : Nat) : Int) := by rw [wrap_i64 (by omega) (by omega)]; simp
      have hfn := begunF_n (l.take i)
      have htl : (l.take i).length ≤ i := by rw [List.length_take]; omega
      have est : begunF (l.take (i + 1)) = putN (begunF (l.take i)) l[i] := by
        unfold begunF
        rw [List.take_succ_eq_append_getElem hlt, List.foldl_append]; rfl
      have ho := hok l[i] (List.getElem_mem hlt)
      simp -dsimp only [Vm.E, List.lookup, Nat.reduceAdd, Nat.reduceBEq, Int.reduceBNe, Int.reduceBEq, Bool.true_beq, Bool.false_beq, Vm.S, Nat.reduceLeDiff, q70]
      refine idx_map ndAv l i hlt ?_
      generalize l[i] = n at est ho
      have hok2 : (yr20 n).ok := ⟨by show I64 2020; unfold I64; omega, ho.2⟩
      simp only [ndAv, ndCells]
      simp -dsimp only [Vm.E, List.lookup, Nat.reduceAdd, Nat.reduceBEq, Int.reduceBNe, Int.reduceBEq, Bool.true_beq, Bool.false_beq, Vm.S, Nat.reduceLeDiff, q70, AV.cells]
      refine call_one (S := tputSpec) rfl _ GaL.rfl ⟨V, begunF (l.take i), yr20 n, rfl, hok2, hB.1, fun h2 g1 g2 => ?_⟩
      simp -dsimp only [Vm.E, List.lookup, Nat.reduceAdd, Nat.reduceBEq, Int.reduceBNe, Int.reduceBEq, Bool.true_beq, Bool.false_beq, Vm.S, Nat.reduceLeDiff, q70]
      refine call_one (S := rtPutSpec) rfl _ GaL.rfl ⟨R, begunF (l.take i), yr20 n, rfl, hok2, hB.view g1 g2, by omega, fun h3 g3 g4 => ?_⟩
      have hB2 := hB.ref g1 g3 g4
      have hB2 : Both h3 V R (begunF (l.take (i + 1))) := by rw [est]; exact hB2
      simp -dsimp only [Vm.E, List.lookup, Nat.reduceAdd, Nat.reduceBEq, Int.reduceBNe, Int.reduceBEq, Bool.true_beq, Bool.false_beq, Vm.S, Nat.reduceLeDiff, q70]
      refine kept_intro ⟨l.length - (i + 1), by omega, _, le_mk [(4, .ptr V.iv 0), (5, .ptr R.iv 0), (14, .sl 12 (l.map ndAv)), (15, .v (.int .i64 l.length)), (16, .v (.int .i64 (i + 1 : Nat)))] ?_, i + 1, by omega, hB2, rfl⟩
      simp only [List.forall_mem_cons, List.not_mem_nil, false_imp_iff, implies_true, and_true, hw]
      try simp -dsimp only [Vm.E, List.lookup, Nat.reduceAdd, Nat.reduceBEq, Int.reduceBNe, Int.reduceBEq, Bool.true_beq, Bool.false_beq, Vm.S, Nat.reduceLeDiff, q70, hw]
      repeat' first | exact Fg.refl _ | exact Fg.nil _ _ _ (by decide) | refine And.intro ?_ ?_
    · have hge : ¬ i < l.length := by have := of_decide_eq_false hcc; omega
      rw [List.take_of_length_le (by omega)] at hB
      simp -dsimp only [Vm.E, List.lookup, Nat.reduceAdd, Nat.reduceBEq, Int.reduceBNe, Int.reduceBEq, Bool.true_beq, Bool.false_beq, Vm.S, Nat.reduceLeDiff, q70]
      exact hq V R h' hB
def aw1 : Nd := { Nd.zero with id := 1, limit := 9 }
def aw2 : Ln := ⟨0, 0, 1, 10⟩
theorem aw_pre : (preNew (begunF [aw1]) 2020 [aw2]).2 = (1, true, 0) := by decide +kernel
theorem aw_nd : (nodeAt (preNew (begunF [aw1]) 2020 [aw2]).1 2020 1).map (·.pre) = some 10 := by decide +kernel
theorem aw1_ok : aw1.ok := by simp [Nd.ok, aw1, Nd.zero, I64]
theorem aw2_ok : aw2.ok := by simp [Ln.ok, aw2, I64]
set_option maxRecDepth 20000 in
theorem does_law31awake : Does Tryz.prog 69 trueSpec := by
  refine does_of_awp (good_cons does_begun (good_cons does_preNew (good_cons does_tget (good_cons does_preCheck good_nil)))) Tryz.func69 rfl (by decide +kernel) (by decide +kernel) ?_
  rintro args h Q ⟨rfl, hq⟩
  refine ⟨by simp [Tryz.f69], ?_⟩
  rw [awpFunc_some (by rfl)]
  simp -dsimp only [Vm.E, List.lookup, Nat.reduceAdd, Nat.reduceBEq, Int.reduceBNe, Int.reduceBEq, Bool.true_beq, Bool.false_beq, Vm.S, Nat.reduceLeDiff, q69]
  refine bs_intro zr93 (by decide) (by decide) rfl rfl (by simp [solid, AV.cells]) ?_
  simp -dsimp only [Vm.E, List.lookup, Nat.reduceAdd, Nat.reduceBEq, Int.reduceBNe, Int.reduceBEq, Bool.true_beq, Bool.false_beq, Vm.S, Nat.reduceLeDiff, q69]
  refine call_one (S := begunSpec) rfl _ GaL.rfl ⟨[aw1], by simp, by simpa using aw1_ok, rfl, fun V R h1 hB => ?_⟩
  simp -dsimp only [Vm.E, List.lookup, Nat.reduceAdd, Nat.reduceBEq, Int.reduceBNe, Int.reduceBEq, Bool.true_beq, Bool.false_beq, Vm.S, Nat.reduceLeDiff, q69]
  refine nil_pointer Tryz.underlying24 ?_
  simp -dsimp only [Vm.E, List.lookup, Nat.reduceAdd, Nat.reduceBEq, Int.reduceBNe, Int.reduceBEq, Bool.true_beq, Bool.false_beq, Vm.S, Nat.reduceLeDiff, q69]
  refine bs_intro zr45 (by decide) (by decide) rfl rfl (by simp [solid, AV.cells]) ?_
  simp -dsimp only [Vm.E, List.lookup, Nat.reduceAdd, Nat.reduceBEq, Int.reduceBNe, Int.reduceBEq, Bool.true_beq, Bool.false_beq, Vm.S, Nat.reduceLeDiff, q69]
  refine call_one (S := preNewSpec) rfl _ GaL.rfl ⟨V, begunF [aw1], 2020, [aw2], by unfold I64; omega, by simp, by simpa using aw2_ok, rfl, hB.1, fun h2 g1 g2 => ?_⟩
  have e1 := aw_pre
  have e2 := aw_nd
  generalize preNew (begunF [aw1]) 2020 [aw2] = q at g1 e1 e2 ⊢
  obtain ⟨qf, qi, qw, qe⟩ := q
  simp only [Prod.mk.injEq] at e1
  obtain ⟨rfl, rfl, rfl⟩ := e1
  simp only at e2 g1 ⊢
  simp -dsimp only [Vm.E, List.lookup, Nat.reduceAdd, Nat.reduceBEq, Int.reduceBNe, Int.reduceBEq, Bool.true_beq, Bool.false_beq, Vm.S, Nat.reduceLeDiff, q69]
  refine call_one (S := tgetSpec) rfl _ GaL.rfl ⟨V, qf, 2020, 1, rfl, g1, fun n hn => ?_, fun hn => by rw [hn] at e2; cases e2⟩
  rw [hn] at e2
  have e3 : n.pre = 10 := by simpa using e2
  simp only [ndCells, e3]
  simp -dsimp only [Vm.E, List.lookup, Nat.reduceAdd, Nat.reduceBEq, Int.reduceBNe, Int.reduceBEq, Bool.true_beq, Bool.false_beq, Vm.S, Nat.reduceLeDiff, q69]
  refine call_one (S := preCheckSpec) rfl _ (.cons (.nil 4) GaL.rfl) ⟨[], by simp, rfl, ?_⟩
  have e4 : preCheck [] = 1 := rfl
  rw [e4]
  simp -dsimp only [Vm.E, List.lookup, Nat.reduceAdd, Nat.reduceBEq, Int.reduceBNe, Int.reduceBEq, Bool.true_beq, Bool.false_beq, Vm.S, Nat.reduceLeDiff, q69]
  exact hq _
end Go.Proofs.Lx
/- Plain laws for DocsBack. -/
set_option linter.unusedSimpArgs false
set_option linter.unusedVariables false
namespace Go.Proofs.Lx
open Go.Vm
attribute [local irreducible] awpArr awpBin awpMake awpAppend awpCvX awpStrOf awpBinX awpSlice awpBS awpStore awpAlloc awpCopy awpIndex awpDraw awpIdxX awpFa awpField awpLookup awpUpdate awpDelete awpClear awpRange awpNext awpEntry awpBuild awpClearS awpIdxL awpTree appB awpIdxO eltA treeA
theorem docOf_put {d : Dc} (hd : d.ok) (hr : InR d.id) : docOf (dcK d.id) (dcV d) = some d := by
  obtain ⟨o1, o2, o3, o4, o5⟩ := hd
  have hv : dcV d = packs 8 [d.kind, d.year, d.frm, d.lines] := rfl
  have hn : numsOf (packs 8 [d.kind, d.year, d.frm, d.lines]) 4 = [d.kind, d.year, d.frm, d.lines] := numsOf_packs [d.kind, d.year, d.frm, d.lines] fun x hx => by
    simp only [List.mem_cons, List.not_mem_nil, or_false] at hx
    rcases hx with rfl | rfl | rfl | rfl <;> assumption
  unfold docOf numsPair
  rw [dcK, splitOf_key 68 [d.id] (by simp)]
  have hk : ([d.id] : List Int).map clampK = [d.id] := by simp [clampK_id hr.1 hr.2]
  simp only [hk]
  rw [if_pos ⟨trivial, rfl, dcV_length d⟩, hv, hn]
  rfl
theorem lineOf_put {x : Dl} (hx : x.ok) {id i : Int} (h1 : InR id) (h2 : InR i) : lineOf (dlK id i) (dlV x) = some x := by
  obtain ⟨o1, o2, o3, o4⟩ := hx
  have hv : dlV x = packs 8 [x.node, x.orig, x.liq, x.can] := rfl
  have hn : numsOf (packs 8 [x.node, x.orig, x.liq, x.can]) 4 = [x.node, x.orig, x.liq, x.can] := numsOf_packs [x.node, x.orig, x.liq, x.can] fun y hy => by
    simp only [List.mem_cons, List.not_mem_nil, or_false] at hy
    rcases hy with rfl | rfl | rfl | rfl <;> assumption
  unfold lineOf numsPair
  rw [dlK, splitOf_key 76 [id, i] (by simp)]
  have hk : ([id, i] : List Int).map clampK = [id, i] := by simp [clampK_id h1.1 h1.2, clampK_id h2.1 h2.2]
  simp only [hk]
  rw [if_pos ⟨trivial, rfl, dlV_length x⟩, hv, hn]
  rfl
theorem dlK_inj {id a b : Int} (ha : InR a) (hb : InR b) (h : dlK id a = dlK id b) : a = b := by
  have := (key_inj (by simp) (by simp) h).2
  simp only [List.map_cons, List.map_nil, clampK_id ha.1 ha.2, clampK_id hb.1 hb.2] at this
  simpa using this
theorem putLines_other (id : Int) : ∀ (l : List Dl) (i : Nat) (f : Fun) (k : List UInt8), (∀ j, j < l.length → k ≠ dlK id ((i + j : Nat) : Int)) → putLines id i l f k = f k
  | [], _, _, _, _ => rfl
  | x :: r, i, f, k, h => by
    have h0 := h 0 (by simp)
    show putLines id (i + 1) r (upd f (dlK id i) (some (dlV x))) k = f k
    rw [putLines_other id r (i + 1) _ k fun j hj => by
      have := h (j + 1) (by simpa using hj)
      rwa [show i + (j + 1) = i + 1 + j by omega] at this]
    rw [upd_app, if_neg (by simpa using h0)]
theorem putLines_get (id : Int) : ∀ (l : List Dl) (i : Nat) (f : Fun) (j : Nat) (hj : j < l.length), i + l.length ≤ 100 → putLines id i l f (dlK id ((i + j : Nat) : Int)) = some (dlV l[j])
  | x :: r, i, f, 0, hj, hb => by
    show putLines id (i + 1) r (upd f (dlK id i) (some (dlV x))) (dlK id ((i + 0 : Nat) : Int)) = _
    simp only [List.length_cons] at hb
    rw [putLines_other id r (i + 1) _ _ fun j' hj' e => by
      have := dlK_inj ⟨by omega, by omega⟩ ⟨by omega, by omega⟩ e
      omega]
    rw [upd_app, if_pos (by rw [Nat.add_zero])]; rfl
  | x :: r, i, f, j + 1, hj, hb => by
    show putLines id (i + 1) r (upd f (dlK id i) (some (dlV x))) (dlK id ((i + (j + 1) : Nat) : Int)) = _
    simp only [List.length_cons] at hb hj
    have := putLines_get id r (i + 1) (upd f (dlK id i) (some (dlV x))) j (by omega) (by omega)
    rw [show i + (j + 1) = i + 1 + j by omega]
    exact this
theorem putLines_some (id : Int) : ∀ (l : List Dl) (i : Nat) (f : Fun) (k v : List UInt8), putLines id i l f k = some v → (∃ j : Int, k = dlK id j) ∨ f k = some v
  | [], _, _, _, _, h => .inr h
  | x :: r, i, f, k, v, h => by
    rcases putLines_some id r (i + 1) _ k v h with h' | h'
    · exact .inl h'
    · rw [upd_app] at h'
      split at h'
      · rename_i e; exact .inl ⟨_, e⟩
      · exact .inr h'
/-- The first document of a view. -/
def dc1 (d : Dc) (l : List Dl) : Dc := { d with id := 1, lines := l.length }
def dF (d : Dc) (l : List Dl) : Fun := docsF noF 1 d l
theorem docs_put {d : Dc} {l : List Dl} (h1 : 1 ≤ l.length) (h6 : l.length ≤ 6) : docsPut noF d l = (dF d l, 1, 0) := by
  have hr : readOf noF (seqKey 2) = 0 := rfl
  unfold docsPut
  rw [if_neg (by omega), hr, if_neg (by omega)]
  rfl
theorem dc1_ok {d : Dc} {l : List Dl} (hd : d.ok) (h6 : l.length ≤ 6) : (dc1 d l).ok := by
  obtain ⟨o1, o2, o3, o4, o5⟩ := hd
  exact ⟨by show I64 1; unfold I64; omega, o2, o3, o4, by show I64 (l.length : Int); unfold I64; omega⟩
theorem dF_doc (d : Dc) (l : List Dl) : dF d l (dcK 1) = some (dcV (dc1 d l)) := by
  unfold dF docsF
  rw [upd_app, if_pos rfl]; rfl
theorem dF_line {d : Dc} {l : List Dl} (h6 : l.length ≤ 6) (j : Nat) (hj : j < l.length) : dF d l (dlK 1 (j : Nat)) = some (dlV l[j]) := by
  unfold dF docsF
  rw [upd_app, if_neg (show ¬ dlK 1 (j : Nat) = dcK 1 from keyOf_tag (by decide))]
  have := putLines_get 1 l 0 (upd noF (seqKey 2) (some (be 8 1))) j hj (by omega)
  simpa using this
theorem dF_at {d : Dc} {l : List Dl} (hd : d.ok) (hl : ∀ x ∈ l, x.ok) (h1 : 1 ≤ l.length) (h6 : l.length ≤ 6) : docAt (dF d l) 1 = some (dc1 d l, l) := by
  have hh : docHead (dF d l) 1 = some (dc1 d l) := by
    unfold docHead
    rw [dF_doc, Option.bind_some]
    have := docOf_put (dc1_ok (l := l) hd h6) ⟨by show (0 : Int) ≤ 1; omega, by show (1 : Int) ≤ _; omega⟩
    have e : dcK (dc1 d l).id = dcK 1 := rfl
    rw [e] at this
    rw [this, Option.bind_some, if_pos]
    exact headOk_iff.2 ⟨rfl, by show 1 ≤ (l.length : Int); omega, by show (l.length : Int) ≤ 6; omega⟩
  have hln : ∀ n, n ≤ l.length → linesAt (dF d l) 1 n = some (l.take n) := fun n => by
    induction n with
    | zero => intro _; rfl
    | succ n ih =>
      intro hn
      show (linesAt (dF d l) 1 n).bind _ = _
      rw [ih (by omega), Option.bind_some]
      have : lineAt (dF d l) 1 (n : Nat) = some l[n] := by
        unfold lineAt
        rw [dF_line h6 n (by omega), Option.bind_some]
        exact lineOf_put (hl _ (List.getElem_mem _)) ⟨by omega, by omega⟩ ⟨by omega, by omega⟩
      rw [this, List.take_succ_eq_append_getElem (by omega)]; rfl
  unfold docAt
  rw [hh, Option.bind_some]
  have e : (dc1 d l).lines.toNat = l.length := by show ((l.length : Int)).toNat = _; omega
  rw [e, hln _ (Nat.le_refl _), List.take_length]; rfl
theorem dF_scan (d : Dc) (l : List Dl) : ScanIs (dF d l) [68] [(dcK 1, dcV (dc1 d l))] := by
  refine ⟨List.pairwise_singleton .., fun k v => ⟨fun h => ?_, fun ⟨h1, h2⟩ => ?_⟩⟩
  · rw [List.mem_singleton] at h
    cases h
    exact ⟨dF_doc d l, rfl⟩
  · have h1' := h1
    unfold dF docsF at h1
    rw [upd_app] at h1
    split at h1
    · rename_i e
      subst e
      rw [dF_doc] at h1'
      cases h1'
      exact List.mem_singleton.2 rfl
    · rcases putLines_some _ _ _ _ _ _ h1 with ⟨j, e⟩ | h
      · rw [e] at h2
        have : ([68] : List UInt8).isPrefixOf (dlK 1 j) = false := rfl
        rw [this] at h2; cases h2
      · rw [upd_app] at h
        split at h
        · rename_i e
          rw [e] at h2
          have : ([68] : List UInt8).isPrefixOf (seqKey 2) = false := rfl
          rw [this] at h2; cases h2
        · cases h
theorem dF_all {d : Dc} {l : List Dl} (hd : d.ok) (h6 : l.length ≤ 6) (y k : Int) : allD y k [(dcK 1, dcV (dc1 d l))] = if d.year = y ∧ d.kind = k then [1] else [] := by
  have := docOf_put (dc1_ok (l := l) hd h6) ⟨by show (0 : Int) ≤ 1; omega, by show (1 : Int) ≤ _; omega⟩
  have e : dcK (dc1 d l).id = dcK 1 := rfl
  rw [e] at this
  have hof : ofYK y k (dcK 1, dcV (dc1 d l)) = if d.year = y ∧ d.kind = k then some 1 else none := by
    unfold ofYK
    simp only [this, Option.bind_some]
    rfl
  unfold allD
  rw [List.filterMap_cons, hof]
  split
  · rename_i h; split at h
    · cases h
    · rename_i hc; rw [if_neg hc]; rfl
  · rename_i h; split at h
    · rename_i hc; cases h; rw [if_pos hc]; rfl
    · cases h
theorem xor_ne {n : Int} (h : I64 n) : ¬ n = Go.bits .xor .i64 (-1) n := fun e => by
  have e1 : Go.bits .xor .i64 (-1) n = IntKind.i64.wrap ((BitVec.ofInt 64 (-1) ^^^ BitVec.ofInt 64 n).toNat : Int) := rfl
  rw [e1, wrap_i64_toInt] at e
  have e2 : BitVec.ofInt 64 ((BitVec.ofInt 64 (-1) ^^^ BitVec.ofInt 64 n).toNat : Int) = BitVec.ofInt 64 (-1) ^^^ BitVec.ofInt 64 n := by
    rw [BitVec.ofInt_natCast, BitVec.ofNat_toNat, BitVec.setWidth_eq]
  rw [e2] at e
  have e3 := congrArg (BitVec.ofInt 64) e
  rw [BitVec.ofInt_toInt] at e3
  generalize BitVec.ofInt 64 n = b at e3
  have e4 := congrArg (fun x => x ^^^ b) e3
  simp only [BitVec.xor_assoc, BitVec.xor_self, BitVec.xor_zero] at e4
  exact absurd e4 (by decide)
end Go.Proofs.Lx
/- The law DocsBack: walks. -/
set_option linter.unusedSimpArgs false
set_option linter.unusedVariables false
namespace Go.Proofs.Lx
open Go.Vm
attribute [local irreducible] awpArr awpBin awpMake awpAppend awpCvX awpStrOf awpBinX awpSlice awpBS awpStore awpAlloc awpCopy awpIndex awpDraw awpIdxX awpFa awpField awpLookup awpUpdate awpDelete awpClear awpRange awpNext awpEntry awpBuild awpClearS awpIdxL awpTree appB awpIdxO eltA treeA
theorem eqDl (x y : Dl) : ((x.node == y.node) && ((x.orig == y.orig) && ((x.liq == y.liq) && (x.can == y.can)))) = true ↔ x = y := by
  obtain ⟨a, b, c, d⟩ := x
  obtain ⟨a2, b2, c2, d2⟩ := y
  simp [and_assoc]
def eqSpecDl : Vm.Spec := fun args h Q => ∃ l l' : List Dl, l.length ≤ 9223372036854775807 ∧ args = [.sl 4 (l.map dlAv), .sl 4 (l'.map dlAv)] ∧ ∀ b : Bool, (b = true ↔ l = l') → Q (.v (.bool b)) h
set_option maxHeartbeats 1000000 in
theorem does_eqDl : Does Tryz.prog 38 eqSpecDl := by
  refine does_of_awp good_nil Tryz.func38 rfl (by decide +kernel) (by decide +kernel) ?_
  rintro args h Q ⟨l, l', hl, rfl, hq⟩
  refine ⟨by simp [Tryz.f38], ?_⟩
  rw [awpFunc_some (by rfl)]
  simp -dsimp only [Vm.E, List.lookup, Nat.reduceAdd, Nat.reduceBEq, Int.reduceBNe, Int.reduceBEq, Bool.true_beq, Bool.false_beq, Vm.S, Nat.reduceLeDiff, q38]
  by_cases hlen : l.length = l'.length
  · have c1 : ((l.length : Int) != l'.length) = false := by simp [hlen]
    simp -dsimp only [Vm.E, List.lookup, Nat.reduceAdd, Nat.reduceBEq, Int.reduceBNe, Int.reduceBEq, Bool.true_beq, Bool.false_beq, Vm.S, Nat.reduceLeDiff, q38, c1]
    refine awp_loop (fun m s h' => ∃ i : Nat, i + m = l.length ∧ h' = h ∧ (∀ j (hj : j < l.length), j < i → l[j] = l'[j]'(by omega)) ∧ s = mk [(0, .sl 4 (l.map dlAv)), (1, .sl 4 (l'.map dlAv)), (12, .v (.int .i64 l.length)), (13, .v (.int .i64 i))])
      l.length _ (le_mk _ ?_) ⟨0, by omega, rfl, fun j _ hj => by omega, rfl⟩ ?_
    · simp only [List.forall_mem_cons, List.not_mem_nil, false_imp_iff, implies_true, and_true]
      try simp -dsimp only [Vm.E, List.lookup, Nat.reduceAdd, Nat.reduceBEq, Int.reduceBNe, Int.reduceBEq, Bool.true_beq, Bool.false_beq, Vm.S, Nat.reduceLeDiff, q38]
      repeat' first | exact Fg.refl _ | exact Fg.nil _ _ _ (by decide) | refine And.intro ?_ ?_
    · rintro m s h' ⟨i, hi, rfl, hb, rfl⟩
      simp -dsimp only [Vm.E, List.lookup, Nat.reduceAdd, Nat.reduceBEq, Int.reduceBNe, Int.reduceBEq, Bool.true_beq, Bool.false_beq, Vm.S, Nat.reduceLeDiff, q38]
      refine cond_intro (fun hcc => ?_) (fun hcc => ?_)
      · have hlt : i < l.length := by have := of_decide_eq_true hcc; omega
        have hlt' : i < l'.length := by omega
        obtain ⟨x, hx⟩ : ∃ x, l[i] = x := ⟨_, rfl⟩
        obtain ⟨y, hy⟩ : ∃ y, l'[i] = y := ⟨_, rfl⟩
        have hw : IntKind.i64.wrap ((i : Int) + 1) = ((i + 1 : Nat) : Int) := by rw [wrap_i64 (by omega) (by omega)]; simp
        simp -dsimp only [Vm.E, List.lookup, Nat.reduceAdd, Nat.reduceBEq, Int.reduceBNe, Int.reduceBEq, Bool.true_beq, Bool.false_beq, Vm.S, Nat.reduceLeDiff, q38]
        refine draw_cont [] (.take 0 (.take 1 (.take 2 (.take 3 (.take 4 (.take 5 (.take 6 (.take 7 (.take 8 (.done)))))))))) (fun s hx => hx = h' ∧ (∃ b : Bool, (b = true ↔ x = y) ∧ s 24 = .v (.bool (!b))) ∧ s 0 = .sl 4 (l.map dlAv) ∧ s 1 = .sl 4 (l'.map dlAv) ∧ s 12 = .v (.int .i64 l.length) ∧ s 13 = .v (.int .i64 i)) (by kernel_rfl) (by kernel_rfl) (by kernel_rfl) (by decide) ?_ ?_
        · simp -dsimp only [Vm.E, List.lookup, Nat.reduceAdd, Nat.reduceBEq, Int.reduceBNe, Int.reduceBEq, Bool.true_beq, Bool.false_beq, Vm.S, Nat.reduceLeDiff, q38]
          refine idx_map dlAv l i hlt ?_
          simp only [hx, dlAv, dlCells]
          simp -dsimp only [Vm.E, List.lookup, Nat.reduceAdd, Nat.reduceBEq, Int.reduceBNe, Int.reduceBEq, Bool.true_beq, Bool.false_beq, Vm.S, Nat.reduceLeDiff, q38, AV.cells]
          refine idx_map dlAv l' i hlt' ?_
          simp only [hy, dlAv, dlCells]
          simp -dsimp only [Vm.E, List.lookup, Nat.reduceAdd, Nat.reduceBEq, Int.reduceBNe, Int.reduceBEq, Bool.true_beq, Bool.false_beq, Vm.S, Nat.reduceLeDiff, q38, AV.cells]
          refine eq_agg fd62 rfl ?_
          simp -dsimp only [Vm.E, List.lookup, Nat.reduceAdd, Nat.reduceBEq, Int.reduceBNe, Int.reduceBEq, Bool.true_beq, Bool.false_beq, Vm.S, Nat.reduceLeDiff, q38]
          refine ⟨⟨_, eqDl x y, rfl⟩, ?_⟩
          repeat' first | rfl | exact True.intro | refine And.intro ?_ ?_
        · rintro s hx2 ⟨rfl, ⟨b, hbe, e24⟩, e0, e1, e12, e13⟩
          cases b
          · have hne : ¬ l = l' := fun e => by
              have : x = y := by subst e; rw [← hx, ← hy]
              have := hbe.2 this
              cases this
            simp -dsimp only [Vm.E, List.lookup, Nat.reduceAdd, Nat.reduceBEq, Int.reduceBNe, Int.reduceBEq, Bool.true_beq, Bool.false_beq, Vm.S, Nat.reduceLeDiff, q38, e24, e0, e1, e12, e13]
            exact hq false ⟨fun h => (by cases h), fun h => (hne h).elim⟩
          · have he := hbe.1 rfl
            simp -dsimp only [Vm.E, List.lookup, Nat.reduceAdd, Nat.reduceBEq, Int.reduceBNe, Int.reduceBEq, Bool.true_beq, Bool.false_beq, Vm.S, Nat.reduceLeDiff, q38, e24, e0, e1, e12, e13]
            refine kept_intro ⟨l.length - (i + 1), by omega, _, le_mk [(0, .sl 4 (l.map dlAv)), (1, .sl 4 (l'.map dlAv)), (12, .v (.int .i64 l.length)), (13, .v (.int .i64 (i + 1 : Nat)))] ?_, i + 1, by omega, rfl, fun j hj hj2 => ?_, rfl⟩
            · simp only [List.forall_mem_cons, List.not_mem_nil, false_imp_iff, implies_true, and_true, hw, e24, e0, e1, e12, e13]
              try simp -dsimp only [Vm.E, List.lookup, Nat.reduceAdd, Nat.reduceBEq, Int.reduceBNe, Int.reduceBEq, Bool.true_beq, Bool.false_beq, Vm.S, Nat.reduceLeDiff, q38, hw, e24, e0, e1, e12, e13]
              repeat' first | exact Fg.refl _ | exact Fg.nil _ _ _ (by decide) | refine And.intro ?_ ?_
            · by_cases hji : j = i
              · subst hji; rw [hx, hy]; exact he
              · exact hb j hj (by omega)
      · have hge : ¬ i < l.length := by have := of_decide_eq_false hcc; omega
        have he : l = l' := List.ext_getElem hlen fun j h1 h2 => hb j h1 (by omega)
        simp -dsimp only [Vm.E, List.lookup, Nat.reduceAdd, Nat.reduceBEq, Int.reduceBNe, Int.reduceBEq, Bool.true_beq, Bool.false_beq, Vm.S, Nat.reduceLeDiff, q38]
        exact hq true ⟨fun _ => he, fun _ => rfl⟩
  · have c1 : ((l.length : Int) != l'.length) = true := by simp; omega
    simp -dsimp only [Vm.E, List.lookup, Nat.reduceAdd, Nat.reduceBEq, Int.reduceBNe, Int.reduceBEq, Bool.true_beq, Bool.false_beq, Vm.S, Nat.reduceLeDiff, q38, c1]
    exact hq false ⟨fun h => (by cases h), fun h => (hlen (by rw [h])).elim⟩
def da : Dc := ⟨0, 1, 2020, 0, 0⟩
def dla : List Dl := [⟨3, 5, 0, 0⟩]
theorem da_ok : da.ok := by simp [Dc.ok, da, I64]
theorem dla_ok : ∀ x ∈ dla, x.ok := by simp [dla, Dl.ok, I64]
set_option maxRecDepth 20000 in
set_option maxHeartbeats 2000000 in
theorem does_law30awake : Does Tryz.prog 35 trueSpec := by
  refine does_of_awp (good_cons does_vnewA (good_cons does_docsPut (good_cons does_docsGet (good_cons does_docsOpen (good_cons does_docsRight (good_cons does_docsAll (good_cons does_eqInt good_nil))))))) Tryz.func35 rfl (by decide +kernel) (by decide +kernel) ?_
  rintro args h Q ⟨rfl, hq⟩
  refine ⟨by simp [Tryz.f35], ?_⟩
  rw [awpFunc_some (by rfl)]
  simp -dsimp only [Vm.E, List.lookup, Nat.reduceAdd, Nat.reduceBEq, Int.reduceBNe, Int.reduceBEq, Bool.true_beq, Bool.false_beq, Vm.S, Nat.reduceLeDiff, q35]
  refine call_one (S := vnewASpec) rfl _ GaL.rfl ⟨rfl, fun V h0 hV => ?_⟩
  simp -dsimp only [Vm.E, List.lookup, Nat.reduceAdd, Nat.reduceBEq, Int.reduceBNe, Int.reduceBEq, Bool.true_beq, Bool.false_beq, Vm.S, Nat.reduceLeDiff, q35]
  refine bs_intro zr62 (by decide) (by decide) rfl rfl (by simp [solid, AV.cells]) ?_
  simp -dsimp only [Vm.E, List.lookup, Nat.reduceAdd, Nat.reduceBEq, Int.reduceBNe, Int.reduceBEq, Bool.true_beq, Bool.false_beq, Vm.S, Nat.reduceLeDiff, q35]
  refine call_one (S := docsPutSpec) rfl _ GaL.rfl ⟨V, noF, da, dla, da_ok, dla_ok, rfl, hV, fun h1 hV1 _ => ?_⟩
  rw [docs_put (d := da) (l := dla) (by decide) (by decide)] at hV1 ⊢
  simp only at hV1 ⊢
  simp -dsimp only [Vm.E, List.lookup, Nat.reduceAdd, Nat.reduceBEq, Int.reduceBNe, Int.reduceBEq, Bool.true_beq, Bool.false_beq, Vm.S, Nat.reduceLeDiff, q35]
  refine call_one (S := docsGetSpec) rfl _ GaL.rfl ⟨V, dF da dla, 1, rfl, hV1, fun d l hd hl6 hdl => ?_, fun hd => by rw [dF_at da_ok dla_ok (by decide) (by decide)] at hd; cases hd⟩
  rw [dF_at da_ok dla_ok (by decide) (by decide)] at hd
  cases hd
  have e1 : (dc1 da dla).lines = 1 := rfl
  have e2 : (dla.map dlAv).length = 1 := rfl
  have e3 : (dla.map dlAv)[(0 : Int).toNat]? = some (dlAv ⟨3, 5, 0, 0⟩) := rfl
  have k1 : (((1 : Nat) : Int) == 1) = true := rfl
  have ho : (openD ⟨3, 5, 0, 0⟩ == 5) = true := by decide
  have hr : rightD ⟨3, 5, 0, 0⟩ = true := by decide
  generalize hxs : dla.map dlAv = xs at e2 e3 ⊢
  simp only [dcCells, e1]
  simp -dsimp only [Vm.E, List.lookup, Nat.reduceAdd, Nat.reduceBEq, Int.reduceBNe, Int.reduceBEq, Bool.true_beq, Bool.false_beq, Vm.S, Nat.reduceLeDiff, q35]
  refine nil_pointer Tryz.underlying24 ?_
  simp -dsimp only [Vm.E, List.lookup, Nat.reduceAdd, Nat.reduceBEq, Int.reduceBNe, Int.reduceBEq, Bool.true_beq, Bool.false_beq, Vm.S, Nat.reduceLeDiff, q35, e2, k1]
  refine idxO_intro (by decide) (by rw [e2]; decide) ?_
  simp -dsimp only [Vm.E, List.lookup, Nat.reduceAdd, Nat.reduceBEq, Int.reduceBNe, Int.reduceBEq, Bool.true_beq, Bool.false_beq, Vm.S, Nat.reduceLeDiff, q35]
  refine eltA_intro e3 ?_
  simp only [dlAv, dlCells]
  simp -dsimp only [Vm.E, List.lookup, Nat.reduceAdd, Nat.reduceBEq, Int.reduceBNe, Int.reduceBEq, Bool.true_beq, Bool.false_beq, Vm.S, Nat.reduceLeDiff, q35, AV.cells, List.drop_zero]
  refine call_one (S := openDSpec) rfl _ GaL.rfl ⟨⟨3, 5, 0, 0⟩, rfl, ?_⟩
  simp -dsimp only [Vm.E, List.lookup, Nat.reduceAdd, Nat.reduceBEq, Int.reduceBNe, Int.reduceBEq, Bool.true_beq, Bool.false_beq, Vm.S, Nat.reduceLeDiff, q35, ho]
  refine idxO_intro (by decide) (by rw [e2]; decide) ?_
  simp -dsimp only [Vm.E, List.lookup, Nat.reduceAdd, Nat.reduceBEq, Int.reduceBNe, Int.reduceBEq, Bool.true_beq, Bool.false_beq, Vm.S, Nat.reduceLeDiff, q35]
  refine eltA_intro e3 ?_
  simp only [dlAv, dlCells]
  simp -dsimp only [Vm.E, List.lookup, Nat.reduceAdd, Nat.reduceBEq, Int.reduceBNe, Int.reduceBEq, Bool.true_beq, Bool.false_beq, Vm.S, Nat.reduceLeDiff, q35, AV.cells, List.drop_zero]
  refine call_one (S := rightDSpec) rfl _ GaL.rfl ⟨⟨3, 5, 0, 0⟩, rfl, ?_⟩
  rw [hr]
  simp -dsimp only [Vm.E, List.lookup, Nat.reduceAdd, Nat.reduceBEq, Int.reduceBNe, Int.reduceBEq, Bool.true_beq, Bool.false_beq, Vm.S, Nat.reduceLeDiff, q35]
  refine call_one (S := docsAllSpec) rfl _ GaL.rfl ⟨V, dF da dla, 2020, 1, rfl, hV1, by decide, fun kv h2 hsc _ hV2 _ => ?_⟩
  rw [hsc.same (dF_scan da dla), dF_all da_ok (by decide), if_pos ⟨rfl, rfl⟩]
  simp -dsimp only [Vm.E, List.lookup, Nat.reduceAdd, Nat.reduceBEq, Int.reduceBNe, Int.reduceBEq, Bool.true_beq, Bool.false_beq, Vm.S, Nat.reduceLeDiff, q35]
  refine bs_intro zr3 (by decide) (by decide) rfl rfl (by simp [solid, AV.cells]) ?_
  simp -dsimp only [Vm.E, List.lookup, Nat.reduceAdd, Nat.reduceBEq, Int.reduceBNe, Int.reduceBEq, Bool.true_beq, Bool.false_beq, Vm.S, Nat.reduceLeDiff, q35]
  refine call_one (S := eqIntSpec) rfl _ GaL.rfl ⟨[1], [1], by simp, rfl, ?_⟩
  simp -dsimp only [Vm.E, List.lookup, Nat.reduceAdd, Nat.reduceBEq, Int.reduceBNe, Int.reduceBEq, Bool.true_beq, Bool.false_beq, Vm.S, Nat.reduceLeDiff, q35]
  exact hq _
theorem putLines_n (id : Int) : ∀ (l : List Dl) (i : Nat) (f : Fun), (putLines id i l f).n = f.n + l.length
  | [], _, _ => rfl
  | x :: r, i, f => by
    show (putLines id (i + 1) r (upd f (dlK id i) (some (dlV x)))).n = _
    rw [putLines_n id r (i + 1)]
    show f.n + 1 + r.length = f.n + (r.length + 1)
    omega
theorem dF_n (d : Dc) (l : List Dl) : (dF d l).n = l.length + 2 := by
  show (putLines 1 0 l (upd noF (seqKey 2) (some (be 8 1)))).n + 1 = _
  rw [putLines_n]
  show 0 + 1 + l.length + 1 = _
  omega
def dbackSpec : Vm.Spec := fun args h Q => ∃ (d : Dc) (l : List Dl), d.ok ∧ (∀ x ∈ l, x.ok) ∧ l.length ≤ 9223372036854775807 ∧ args = [.agg (dcCells d), .sl 4 (l.map dlAv)] ∧ ∀ h', Q (.v (.bool true)) h'
set_option maxRecDepth 20000 in
set_option maxHeartbeats 4000000 in
theorem does_dback : Does Tryz.prog 6 dbackSpec := by
  refine does_of_awp (good_cons does_vnewA (good_cons does_docsPut (good_cons does_docsGet (good_cons does_eqDl (good_cons does_docsAll (good_cons does_hasInt (good_cons does_law30awake good_nil))))))) Tryz.func6 rfl (by decide +kernel) (by decide +kernel) ?_
  rintro args h Q ⟨d, l, hd, hl, hll, rfl, hq⟩
  refine ⟨by simp [Tryz.f6], ?_⟩
  rw [awpFunc_some (by rfl)]
  simp only [dcCells]
  simp -dsimp only [Vm.E, List.lookup, Nat.reduceAdd, Nat.reduceBEq, Int.reduceBNe, Int.reduceBEq, Bool.true_beq, Bool.false_beq, Vm.S, Nat.reduceLeDiff, q6]
  have hd1 := Bool.eq_false_or_eq_true (decide ((l.length : Int) < 1))
  rcases hd1 with c1 | c1
  · simp -dsimp only [Vm.E, List.lookup, Nat.reduceAdd, Nat.reduceBEq, Int.reduceBNe, Int.reduceBEq, Bool.true_beq, Bool.false_beq, Vm.S, Nat.reduceLeDiff, q6, c1]
    refine call_one (S := trueSpec) rfl _ GaL.rfl ⟨rfl, fun hz => ?_⟩
    simp -dsimp only [Vm.E, List.lookup, Nat.reduceAdd, Nat.reduceBEq, Int.reduceBNe, Int.reduceBEq, Bool.true_beq, Bool.false_beq, Vm.S, Nat.reduceLeDiff, q6]
    exact hq _
  · have d1 := of_decide_eq_false c1
    have hd6 := Bool.eq_false_or_eq_true (decide ((l.length : Int) > 6))
    rcases hd6 with c6 | c6
    · simp -dsimp only [Vm.E, List.lookup, Nat.reduceAdd, Nat.reduceBEq, Int.reduceBNe, Int.reduceBEq, Bool.true_beq, Bool.false_beq, Vm.S, Nat.reduceLeDiff, q6, c1, c6]
      refine call_one (S := trueSpec) rfl _ GaL.rfl ⟨rfl, fun hz => ?_⟩
      simp -dsimp only [Vm.E, List.lookup, Nat.reduceAdd, Nat.reduceBEq, Int.reduceBNe, Int.reduceBEq, Bool.true_beq, Bool.false_beq, Vm.S, Nat.reduceLeDiff, q6]
      exact hq _
    · have d6 := of_decide_eq_false c6
      have hda := dF_at (d := d) (l := l) hd hl (by omega) (by omega)
      simp -dsimp only [Vm.E, List.lookup, Nat.reduceAdd, Nat.reduceBEq, Int.reduceBNe, Int.reduceBEq, Bool.true_beq, Bool.false_beq, Vm.S, Nat.reduceLeDiff, q6, c1, c6]
      refine call_one (S := vnewASpec) rfl _ GaL.rfl ⟨rfl, fun V h0 hV => ?_⟩
      simp -dsimp only [Vm.E, List.lookup, Nat.reduceAdd, Nat.reduceBEq, Int.reduceBNe, Int.reduceBEq, Bool.true_beq, Bool.false_beq, Vm.S, Nat.reduceLeDiff, q6]
      refine call_one (S := docsPutSpec) rfl _ GaL.rfl ⟨V, noF, d, l, hd, hl, rfl, hV, fun h1 hV1 _ => ?_⟩
      rw [docs_put (d := d) (l := l) (by omega) (by omega)] at hV1 ⊢
      simp only at hV1 ⊢
      simp -dsimp only [Vm.E, List.lookup, Nat.reduceAdd, Nat.reduceBEq, Int.reduceBNe, Int.reduceBEq, Bool.true_beq, Bool.false_beq, Vm.S, Nat.reduceLeDiff, q6]
      refine call_one (S := docsGetSpec) rfl _ GaL.rfl ⟨V, dF d l, 1, rfl, hV1, fun d2 l2 hd2 hl6 hdl => ?_, fun hn => by rw [hda] at hn; cases hn⟩
      rw [hda] at hd2
      cases hd2
      simp only [dcCells, dc1]
      simp -dsimp only [Vm.E, List.lookup, Nat.reduceAdd, Nat.reduceBEq, Int.reduceBNe, Int.reduceBEq, Bool.true_beq, Bool.false_beq, Vm.S, Nat.reduceLeDiff, q6]
      refine eq_agg fd54 rfl ?_
      simp -dsimp only [Vm.E, List.lookup, Nat.reduceAdd, Nat.reduceBEq, Int.reduceBNe, Int.reduceBEq, Bool.true_beq, Bool.false_beq, Vm.S, Nat.reduceLeDiff, q6, Bool.true_and, Bool.and_self]
      refine call_one (S := eqSpecDl) rfl _ GaL.rfl ⟨l, l, by omega, rfl, fun b hb => ?_⟩
      have hb : b = true := hb.2 rfl
      subst hb
      simp -dsimp only [Vm.E, List.lookup, Nat.reduceAdd, Nat.reduceBEq, Int.reduceBNe, Int.reduceBEq, Bool.true_beq, Bool.false_beq, Vm.S, Nat.reduceLeDiff, q6]
      refine call_one (S := docsAllSpec) rfl _ GaL.rfl ⟨V, dF d l, d.year, d.kind, rfl, hV1, by rw [dF_n]; omega, fun kv h2 hsc _ hV2 _ => ?_⟩
      rw [hsc.same (dF_scan d l), dF_all hd (by omega), if_pos ⟨rfl, rfl⟩]
      simp -dsimp only [Vm.E, List.lookup, Nat.reduceAdd, Nat.reduceBEq, Int.reduceBNe, Int.reduceBEq, Bool.true_beq, Bool.false_beq, Vm.S, Nat.reduceLeDiff, q6]
      refine call_one (S := hasIntSpec) rfl _ GaL.rfl ⟨[1], 1, by simp, rfl, ?_⟩
      have hm : decide ((1 : Int) ∈ [(1 : Int)]) = true := by decide
      rw [hm]
      simp -dsimp only [Vm.E, List.lookup, Nat.reduceAdd, Nat.reduceBEq, Int.reduceBNe, Int.reduceBEq, Bool.true_beq, Bool.false_beq, Vm.S, Nat.reduceLeDiff, q6]
      refine call_one (S := docsAllSpec) rfl _ GaL.rfl ⟨V, dF d l, d.year, Go.bits .xor .i64 (-1) d.kind, rfl, hV2, by rw [dF_n]; omega, fun kv h3 hsc2 _ hV3 _ => ?_⟩
      rw [hsc2.same (dF_scan d l), dF_all hd (by omega), if_neg (show ¬ (d.year = d.year ∧ d.kind = Go.bits .xor .i64 (-1) d.kind) from fun hc => xor_ne hd.2.1 hc.2)]
      have k0 : (((0 : Nat) : Int) == 0) = true := rfl
      simp -dsimp only [Vm.E, List.lookup, Nat.reduceAdd, Nat.reduceBEq, Int.reduceBNe, Int.reduceBEq, Bool.true_beq, Bool.false_beq, Vm.S, Nat.reduceLeDiff, q6, k0, List.map_nil, List.length_nil]
      refine call_one (S := trueSpec) rfl _ GaL.rfl ⟨rfl, fun hz => ?_⟩
      simp -dsimp only [Vm.E, List.lookup, Nat.reduceAdd, Nat.reduceBEq, Int.reduceBNe, Int.reduceBEq, Bool.true_beq, Bool.false_beq, Vm.S, Nat.reduceLeDiff, q6]
      exact hq _
theorem isA_dc {y : AV} (h : IsA (.agg [.int .i64, .int .i64, .int .i64, .int .i64, .int .i64]) y) : ∃ x : Dc, x.ok ∧ y = .agg (dcCells x) := by
  simp only [IsA, IsAll] at h
  obtain ⟨ys, ⟨y1, r1, rfl, h1, y2, r2, rfl, h2, y3, r3, rfl, h3, y4, r4, rfl, h4, y5, r5, rfl, h5, rfl⟩, rfl⟩ := h
  obtain ⟨a1, k1, rfl⟩ := isA_int (by simpa only [IsA] using h1)
  obtain ⟨a2, k2, rfl⟩ := isA_int (by simpa only [IsA] using h2)
  obtain ⟨a3, k3, rfl⟩ := isA_int (by simpa only [IsA] using h3)
  obtain ⟨a4, k4, rfl⟩ := isA_int (by simpa only [IsA] using h4)
  obtain ⟨a5, k5, rfl⟩ := isA_int (by simpa only [IsA] using h5)
  exact ⟨⟨a1, a2, a3, a4, a5⟩, ⟨k1, k2, k3, k4, k5⟩, rfl⟩
theorem isA_dl {y : AV} (h : IsA (.agg [.int .i64, .int .i64, .int .i64, .int .i64]) y) : ∃ x : Dl, x.ok ∧ y = dlAv x := by
  simp only [IsA, IsAll] at h
  obtain ⟨ys, ⟨y1, r1, rfl, h1, y2, r2, rfl, h2, y3, r3, rfl, h3, y4, r4, rfl, h4, rfl⟩, rfl⟩ := h
  obtain ⟨a1, k1, rfl⟩ := isA_int (by simpa only [IsA] using h1)
  obtain ⟨a2, k2, rfl⟩ := isA_int (by simpa only [IsA] using h2)
  obtain ⟨a3, k3, rfl⟩ := isA_int (by simpa only [IsA] using h3)
  obtain ⟨a4, k4, rfl⟩ := isA_int (by simpa only [IsA] using h4)
  exact ⟨⟨a1, a2, a3, a4⟩, ⟨k1, k2, k3, k4⟩, rfl⟩
theorem dback_args {y0 y1 : AV} (i0 : IsA (.agg [.int .i64, .int .i64, .int .i64, .int .i64, .int .i64]) y0) (i1 : IsA (.sl (.agg [.int .i64, .int .i64, .int .i64, .int .i64])) y1) {Q : AV → Heap → Prop} (hq : ∀ h', Q (.v (.bool true)) h') : dbackSpec [y0, y1] [] Q := by
  obtain ⟨d, hd, rfl⟩ := isA_dc i0
  obtain ⟨l, hl, rfl, hok⟩ := isA_list _ dlAv (fun y hy => isA_dl hy) i1
  exact ⟨d, l, hd, hok, hl, rfl, hq⟩
end Go.Proofs.Lx
/- A view committed, or forgotten: what lies beneath it. -/
set_option linter.unusedSimpArgs false
set_option linter.unusedVariables false
namespace Go.Proofs.Lx
open Go.Vm
attribute [local irreducible] awpArr awpBin awpMake awpAppend awpCvX awpStrOf awpBinX awpSlice awpBS awpStore awpAlloc awpCopy awpIndex awpDraw awpIdxX awpFa awpField awpLookup awpUpdate awpDelete awpClear awpRange awpNext awpEntry awpBuild awpClearS awpIdxL awpTree appB awpIdxO eltA treeA
def memOf (mem : List Ent) (k : List UInt8) : Option (List UInt8) := (mget (strK k) mem).map fun e => bytesOf e.val
/-- What lies beneath a view in memory; beneath the reference's. -/
def memV (h : Heap) (V : VId) (g : Fun) : Prop := ∃ mem clk, h[V.im]? = some (.map mem clk) ∧ (∀ k, g k = memOf mem k) ∧ mem.length ≤ g.n
def wasR (h : Heap) (R : RId) (g : Fun) : Prop := ∃ lw : List KV, h[R.iw]? = some (tabObj lw) ∧ TabIs g lw ∧ lw.length ≤ g.n ∧ ∀ p ∈ lw, p.1.length ≤ 32 ∧ p.2.length ≤ 120
def BothW (h : Heap) (V : VId) (R : RId) (f g : Fun) : Prop := Both h V R f ∧ memV h V g ∧ wasR h R g
theorem memV.same {h h' : Heap} {V : VId} {g : Fun} {fp : List Nat} (hm : memV h V g) (hs : Same h h' fp) (hd : V.im ∉ fp) : memV h' V g := by
  obtain ⟨mem, clk, h1, h2⟩ := hm
  exact ⟨mem, clk, hs.get h1 hd, h2⟩
theorem wasR.same {h h' : Heap} {R : RId} {g : Fun} {fp : List Nat} (hw : wasR h R g) (hs : Same h h' fp) (hd : R.iw ∉ fp) : wasR h' R g := by
  obtain ⟨lw, h1, h2⟩ := hw
  exact ⟨lw, hs.get h1 hd, h2⟩
theorem isView.ne {h : Heap} {V : VId} {f : Fun} (hV : isView h V f) : V.iv ≠ V.ic ∧ V.iv ≠ V.im ∧ V.ic ≠ V.im := by
  obtain ⟨_, _, _, _, _, _, _, h4, _⟩ := hV
  exact h4
theorem isRef.ne {h : Heap} {R : RId} {f : Fun} (hR : isRef h R f) : R.iw ≠ R.inn ∧ R.iw ≠ R.it := by
  obtain ⟨_, _, _, _, _, _, _, h5, _⟩ := hR
  exact h5.2.2.2
theorem BothW.step {h h' h2 : Heap} {V : VId} {R : RId} {f f' g : Fun} (hB : BothW h V R f g) (hV : isView h' V f') (hs : Same h h' [V.ic]) (hR : isRef h2 R f') (hs2 : Same h' h2 (rFoot R)) : BothW h2 V R f' g := by
  obtain ⟨hB, hm, hw⟩ := hB
  refine ⟨hB.ref hV hR hs2, (hm.same hs ?_).same hs2 ?_, (hw.same hs ?_).same hs2 ?_⟩
  · have := hB.1.ne.2.2
    simp [Ne.symm this]
  · have := hB.2.2 V.im (by simp)
    simp [rFoot] at this ⊢
    exact ⟨this.2.2.1, this.2.2.2⟩
  · have := hB.2.2 V.ic (by simp)
    simp at this ⊢
    exact fun e => this.2.1 e.symm
  · have := hB.2.1.ne
    simp [rFoot]
    exact this
theorem BothW.quiet {h h' : Heap} {V : VId} {R : RId} {f g : Fun} (hB : BothW h V R f g) (hV : isView h' V f) (hs : Same h h' []) : BothW h' V R f g :=
  ⟨hB.1.quiet hV hs, hB.2.1.same hs (by simp), hB.2.2.same hs (by simp)⟩
theorem Both.quietB {h h' : Heap} {V : VId} {R : RId} {f g : Fun} (hB : BothW h V R f g) (hB2 : Both h' V R f) (hs : Same h h' []) : BothW h' V R f g :=
  ⟨hB2, hB.2.1.same hs (by simp), hB.2.2.same hs (by simp)⟩
theorem mdel_sub (k : Value) : ∀ es : List Ent, (mdel k es).Sublist es
  | [] => .slnil
  | e :: es => by
    unfold mdel
    split
    · exact List.sublist_cons_self ..
    · exact (mdel_sub k es).cons_cons e
theorem mget_cons (k : List UInt8) (e : Ent) (es : List Ent) {a : List UInt8} (he : e.key = strK a) : mget (strK k) (e :: es) = if k = a then some e else mget (strK k) es := by
  unfold mget
  rw [List.find?_cons, he, keyEq_str]
  by_cases h : k = a
  · rw [if_pos h, h]; simp
  · have : (k == a) = false := by simpa using h
    rw [if_neg h, this]
theorem mget_mdel (q k : List UInt8) : ∀ {es : List Ent}, (∀ e ∈ es, ∃ k, e.key = strK k) → (es.map kOf).Nodup → mget (strK k) (mdel (strK q) es) = if k = q then none else mget (strK k) es
  | [], _, _ => by simp [mdel, mget]
  | e :: es, hk, hn => by
    obtain ⟨a, ha⟩ := hk e (List.mem_cons_self ..)
    have hk' : ∀ e ∈ es, ∃ k, e.key = strK k := fun e he => hk e (List.mem_cons_of_mem _ he)
    rw [List.map_cons, List.nodup_cons] at hn
    rw [kOf_eq ha] at hn
    unfold mdel
    rw [ha, keyEq_str]
    by_cases hq : q = a
    · subst hq
      simp only [beq_self_eq_true, if_true]
      rw [mget_cons k e es ha]
      by_cases hkq : k = q
      · rw [if_pos hkq, hkq]
        cases hg : mget (strK q) es with
        | none => rfl
        | some x => exact absurd ((mget_some hk' hn.2).1 (by rw [hg]; rfl)) hn.1
      · rw [if_neg hkq, if_neg hkq]
    · have h2 : (q == a) = false := by simpa using hq
      simp only [h2, Bool.false_eq_true, if_false]
      rw [mget_cons k e _ ha, mget_cons k e es ha, mget_mdel q k hk' hn.2]
      by_cases hka : k = a
      · have : ¬ k = q := fun e => hq (e ▸ hka)
        rw [if_pos hka, if_neg this, if_pos hka]
      · rw [if_neg hka, if_neg hka]
theorem Born.del {q : Value} {c : Nat} {es : List Ent} (h : Born es c) : Born (mdel q es) c :=
  ⟨⟨h.1.1.sublist ((mdel_sub q es).map _), h.1.2.sublist ((mdel_sub q es).map _)⟩, fun e he => h.2 e ((mdel_sub q es).mem he)⟩
/-- Changes 'done' came about over 'mem0'. -/
structure Kept (mem0 done mem : List Ent) (clk : Nat) : Prop where
  wf : ∀ e ∈ mem, WfM e
  born : Born mem clk
  len : mem.length ≤ mem0.length + done.length
  short : ∀ e ∈ mem, (kOf e).length ≤ 32
  now : ∀ k, memOf mem k = nowOf done mem0 k
theorem nowOf_snoc {done mem0 : List Ent} {e : Ent} {q : List UInt8} (hq : e.key = strK q) (hk : ∀ e ∈ done, ∃ k, e.key = strK k) (hn : ((done ++ [e]).map kOf).Nodup) (k : List UInt8) :
    nowOf (done ++ [e]) mem0 k = if k = q then shapeOf e.val else nowOf done mem0 k := by
  have h1 : mget (strK k) (done ++ [e]) = (mget (strK k) done).or (mget (strK k) [e]) := by unfold mget; rw [List.find?_append]
  have h2 := mget_cons k e [] hq
  rw [List.map_append, List.nodup_append] at hn
  have hqd : q ∉ done.map kOf := fun hm => hn.2.2 q hm q (by simp [kOf_eq hq]) rfl
  unfold nowOf
  rw [h1, h2]
  by_cases hkq : k = q
  · subst hkq
    have : mget (strK k) done = none := by
      cases hg : mget (strK k) done with
      | none => rfl
      | some x => exact absurd ((mget_some hk hn.1).1 (by rw [hg]; rfl)) hqd
    rw [this]; simp
  · rw [if_neg hkq, if_neg hkq]
    have : mget (strK k) ([] : List Ent) = none := rfl
    rw [this, Option.or_none]
theorem Kept.del {mem0 done mem : List Ent} {clk : Nat} (h : Kept mem0 done mem clk) {e : Ent} {q : List UInt8} (hq : e.key = strK q) (hs : shapeOf e.val = none) (hk : ∀ e ∈ done, ∃ k, e.key = strK k) (hn : ((done ++ [e]).map kOf).Nodup) :
    Kept mem0 (done ++ [e]) (mdel (strK q) mem) clk := by
  refine ⟨fun x hx => h.wf x ((mdel_sub _ _).mem hx), h.born.del, ?_, fun x hx => h.short x ((mdel_sub _ _).mem hx), fun k => ?_⟩
  · have := (mdel_sub (strK q) mem).length_le
    have := h.len
    rw [List.length_append]; omega
  · rw [nowOf_snoc hq hk hn k, hs, ← h.now k]
    unfold memOf
    rw [mget_mdel q k (fun e he => (h.wf e he).1) h.born.1.2]
    split <;> rfl
theorem Kept.put {mem0 done mem : List Ent} {clk : Nat} (h : Kept mem0 done mem clk) {e : Ent} {q l : List UInt8} {x : AV} (hq : e.key = strK q) (hs : shapeOf e.val = some l) (hx : isB x l) (hl : l.length ≤ 120) (hq32 : q.length ≤ 32) (hk : ∀ e ∈ done, ∃ k, e.key = strK k) (hn : ((done ++ [e]).map kOf).Nodup) :
    Kept mem0 (done ++ [e]) (mput (strK q) x clk mem) (mclk (strK q) mem clk) := by
  have hkm : ∀ e ∈ mem, ∃ k, e.key = strK k := fun e he => (h.wf e he).1
  refine ⟨fun y hy => ?_, h.born.put hkm, ?_, fun y hy => ?_, fun k => ?_⟩
  · rcases mput_mem hy with hy | ⟨h1, h2⟩
    · exact h.wf y hy
    · exact ⟨⟨q, h1⟩, l, by rw [h2]; exact hx, hl⟩
  · have := mput_length (k := strK q) (v := x) (c := clk) mem
    have := h.len
    rw [List.length_append]
    simp only [List.length_cons, List.length_nil]
    omega
  · rcases mput_mem hy with hy | ⟨h1, h2⟩
    · exact h.short y hy
    · rw [kOf_eq h1]; exact hq32
  · rw [nowOf_snoc hq hk hn k, hs, ← h.now k]
    unfold memOf
    have hg := mget_mput (v := x) (c := clk) q k hkm
    have e1 : ∀ o : Option Ent, (o.map fun e => bytesOf e.val) = (o.map Ent.val).map bytesOf := fun o => by cases o <;> rfl
    rw [e1, hg]
    by_cases hkq : k = q
    · rw [if_pos hkq, if_pos hkq, Option.map_some, bytesOf_isB hx]
    · rw [if_neg hkq, if_neg hkq, ← e1]
theorem nowOf_perm {a b mem : List Ent} (h : a.Perm b) (hk : ∀ e ∈ a, ∃ k, e.key = strK k) (hn : (a.map kOf).Nodup) (k : List UInt8) : nowOf a mem k = nowOf b mem k := by
  have hk2 : ∀ e ∈ b, ∃ k, e.key = strK k := fun e he => hk e (h.mem_iff.2 he)
  have hn2 : (b.map kOf).Nodup := ((h.map kOf).nodup_iff).1 hn
  have : mget (strK k) a = mget (strK k) b := by
    cases hg : mget (strK k) b with
    | some e =>
      obtain ⟨h1, h2⟩ := (mget_iff hk2 hn2).1 hg
      exact (mget_iff hk hn).2 ⟨h.mem_iff.2 h1, h2⟩
    | none =>
      cases hg2 : mget (strK k) a with
      | none => rfl
      | some e =>
        obtain ⟨h1, h2⟩ := (mget_iff hk hn).1 hg2
        have := (mget_iff hk2 hn2).2 ⟨h.mem_iff.1 h1, h2⟩
        rw [hg] at this; cases this
  unfold nowOf
  rw [this]
end Go.Proofs.Lx
/- Strings and numbers sorted, in place: by the kit's laws on Go's own sort. -/
set_option linter.unusedSimpArgs false
set_option linter.unusedVariables false
namespace Go.Proofs.Lx
open Go.Vm Go.RowKit
/-- The world behind a sort of one-cell elements. -/
theorem putRow_heap {α : Type} [Inhabited α] (enc : α → Value) (w : World) (b n : Nat) (d : Array α) (os : Array Obj) :
    (∀ k, k < w.heap.size → k ≠ b → (Sort.grow (Sort.putRow enc (Sort.ahead w n) b 0 d) os).heap[k]? = w.heap[k]?) ∧ w.heap.size ≤ (Sort.grow (Sort.putRow enc (Sort.ahead w n) b 0 d) os).heap.size ∧
      ∀ vs e fr, w.heap[b]? = some (.cells vs e fr) → (Sort.grow (Sort.putRow enc (Sort.ahead w n) b 0 d) os).heap[b]? = some (.cells (Sort.putCells enc 0 d vs) e fr) := by
  have hs : (Sort.putRow enc (Sort.ahead w n) b 0 d).heap.size = w.heap.size := by simp [Sort.putRow, Sort.mapBlock, Sort.ahead]
  have hg : ∀ k, k < w.heap.size → (Sort.grow (Sort.putRow enc (Sort.ahead w n) b 0 d) os).heap[k]? = (w.heap.modify b (Sort.onCells (Sort.putCells enc 0 d)))[k]? := fun k hk => by
    show ((Sort.putRow enc (Sort.ahead w n) b 0 d).heap ++ os)[k]? = _
    rw [Array.getElem?_append_left (by rw [hs]; exact hk)]; rfl
  refine ⟨fun k hk hne => ?_, ?_, fun vs e fr hb => ?_⟩
  · rw [hg k hk, Array.getElem?_modify, if_neg (fun e => hne e.symm)]
  · show w.heap.size ≤ ((Sort.putRow enc (Sort.ahead w n) b 0 d).heap ++ os).size
    rw [Array.size_append, hs]; omega
  · rw [hg b (lt_of_heap hb), Array.getElem?_modify, if_pos rfl, hb]; rfl
def vAv {α : Type} (enc : α → Value) (x : α) : AV := .v (enc x)
theorem flat_v {α : Type} (enc : α → Value) (l : List α) : flat (l.map (vAv enc)) = l.map (vAv enc) := by
  unfold flat
  induction l with
  | nil => rfl
  | cons x r ih => rw [List.map_cons, List.flatMap_cons, ih]; rfl
def sortVSpec {α : Type} (enc : α → Value) (R : List α → Prop) : Vm.Spec := fun args h Q => ∃ (l : List α) (h0 : Heap) (c e : Nat), args = [.osl h0.length 0 l.length c] ∧ h = h0 ++ [.row e (c * 1) (flat (l.map (vAv enc)))] ∧ l.length < 4611686018427387904 ∧ l.length ≤ c ∧
  ∀ l' : List α, l'.Perm l → R l' → Q (.tup []) (h0 ++ [.row e (c * 1) (flat (l'.map (vAv enc)))])
theorem does_sortV {α : Type} [Inhabited α] {f : FuncId} {R : List α → Prop} (enc : α → Value) (hp : ∀ x, plain (enc x) = true) (h1 : ∀ x, (enc x).oneCell' = true) (hcall : Callable Tryz.prog f)
    (key : ∀ (blk cap : Nat) (l : List α) (w : World), Sort.Holds enc w blk 0 l.toArray → blk < w.heap.size → l.length < 4611686018427387904 →
      Calls Tryz.prog f #[.slice (some ⟨blk, 0, none⟩) l.length cap] w fun e w' => e = .returned (.tuple #[]) ∧ ∃ (n : Nat) (os : Array Obj) (l' : List α), (l'.Perm l ∧ R l') ∧ w' = Sort.grow (Sort.putRow enc (Sort.ahead w n) blk 0 l'.toArray) os) :
    Does Tryz.prog f (sortVSpec enc R) := by
  refine ⟨hcall, ?_⟩
  rintro args h Q ⟨l, h0, c, e, rfl, rfl, hln, hlc, hq⟩ w g vs hvs hrep hh hfr hlaid
  have hm : h0.length < g.n := by rw [← hh.n]; simp
  generalize hb : g.loc h0.length = b
  have hrow : RowE w g e (c * 1) (flat (l.map (vAv enc))) b := by
    have : ObjRep w g (.row e (c * 1) (flat (l.map (vAv enc)))) (g.loc h0.length) := hh.obj h0.length _ (heap_last _ _)
    rw [hb] at this; exact this
  have hblt : b < w.heap.size := by rw [← hb]; exact hh.lt _ hm
  have hv0 : vs.getD 0 undef = .slice (some ⟨b, 0, none⟩) l.length c := by
    have := hrep 0 _ rfl
    generalize vs.getD 0 undef = v at this
    cases this with | osl => rw [hb]
  have hvs2 : vs = #[.slice (some ⟨b, 0, none⟩) l.length c] := by
    have h2 : vs.size = 1 := hvs
    apply Array.ext
    · simpa using h2
    · intro i hi1 hi2
      have : i = 0 := by omega
      subst this
      simpa [Array.getD, h2] using hv0
  subst hvs2
  obtain ⟨cur, a1, a2, a3, a4, a5, a6⟩ := hrow
  have hfl : (flat (l.map (vAv enc))).length = l.length := by rw [flat_v, List.length_map]
  have hcur : ∀ j (hj : j < l.length), cur.getD j undef = enc l[j] := fun j hj => by
    have := a6 j (vAv enc l[j]) (by rw [flat_v, List.getElem?_map, List.getElem?_eq_getElem hj]; rfl)
    exact (rep_v this).1
  have hH : Sort.Holds enc w b 0 l.toArray := fun j hj => by
    have hj : j < l.length := by simpa using hj
    have hjc : j < cur.size := by omega
    rw [Nat.zero_add]
    refine ⟨?_, ?_⟩
    · rw [cell_of_row w b j cur e (0, 0) a1]
      have := hcur j hj
      have e2 : (l.toArray)[j]! = l[j] := by rw [getElem!_pos l.toArray j (by simpa using hj)]; simp
      rw [e2, ← this]
      simp [Array.getD, hjc]
    · simp [World.frozen?, a1]
  refine (key b c l w hH hblt hln).mono ?_
  rintro e' w' ⟨rfl, n, os, l', ⟨hperm, hR⟩, rfl⟩
  obtain ⟨q1, q2, q3⟩ := putRow_heap enc w b n l'.toArray os
  have hlen : l'.length = l.length := hperm.length_eq
  generalize hW : Sort.grow (Sort.putRow enc (Sort.ahead w n) b 0 l'.toArray) os = w' at q1 q2 q3
  have hos : w'.os = w.os ∧ w'.tape = w.tape ∧ w'.output = w.output := by rw [← hW]; exact ⟨rfl, rfl, rfl⟩
  have hk : Keeps w g w' g := ⟨fun _ => Nat.le_refl _, fun k j v hj hv => by
    have hkb : k ≠ b := fun e => by rw [e, a4] at hj; omega
    have hkl : k < w.heap.size := by
      rcases Nat.lt_or_ge k w.heap.size with h | h
      · exact h
      · rw [hfr k h] at hj; omega
    rw [World.cell?_of_block (a := ⟨k, j, none⟩) (q1 k hkl hkb)]; exact hv, Nat.le_refl _, fun _ _ => rfl⟩
  have hrow' : RowE w' g e (c * 1) (flat (l'.map (vAv enc))) b := by
    have hnew : ∀ j (hj : j < l'.length), (Sort.putCells enc 0 l'.toArray cur).getD j undef = enc l'[j] := fun j hj => by
      have hjc : j < cur.size := by omega
      have e2 : (l'.toArray)[j]! = l'[j] := by rw [getElem!_pos l'.toArray j (by simpa using hj)]; simp
      rw [← e2]
      simp only [Sort.putCells]
      simp [Array.getD, hjc, hj]
    refine ⟨_, q3 cur e (0, 0) a1, by simp [Sort.putCells, a2], by rw [flat_v, List.length_map]; omega, a4, fun j hj => ?_, fun j u hu => ?_⟩
    · rw [flat_v, List.length_map] at hj
      rw [hnew j hj]; exact h1 _
    · rw [flat_v, List.getElem?_map] at hu
      have hj : j < l'.length := by
        rcases Nat.lt_or_ge j l'.length with h | h
        · exact h
        · rw [List.getElem?_eq_none h] at hu; cases hu
      rw [List.getElem?_eq_getElem hj] at hu
      cases hu
      rw [hnew j hj]
      exact .v (hp _)
  refine ⟨.tup [], h0 ++ [.row e (c * 1) (flat (l'.map (vAv enc)))], g, .tuple #[], hq l' hperm hR, rfl, .tup rfl (fun j u hu => by simp at hu), ?_, ?_, Nat.le_refl _, fun _ _ => rfl, fun _ _ => rfl, fun i hi h1 => by omega, fun k hk' => hfr k (Nat.le_trans q2 hk')⟩
  · refine ⟨by rw [← hh.n]; simp, fun i hi => Nat.lt_of_lt_of_le (hh.lt i hi) q2, hh.inj, fun i o ho => ?_⟩
    rcases Nat.lt_or_ge i h0.length with hi | hi
    · rw [List.getElem?_append_left hi] at ho
      have hig : i < g.n := by omega
      have hne : g.loc i ≠ b := fun e => by
        have := hh.inj i h0.length hig hm (e.trans hb.symm)
        omega
      exact (hh.obj i o (by rw [List.getElem?_append_left hi]; exact ho)).keepAt hk ⟨q1 _ (hh.lt i hig) hne, rfl⟩
    · have hie : i = h0.length := by
        rcases Nat.lt_or_ge i (h0.length + 1) with h | h
        · omega
        · rw [List.getElem?_eq_none (by simp; omega)] at ho; cases ho
      subst hie
      rw [heap_last] at ho
      cases ho
      show RowE _ _ _ _ _ (g.loc h0.length)
      rw [hb]; exact hrow'
  · exact ⟨hos.1, hos.2.1, hos.2.2, q2, fun k hk' hno => q1 k hk' fun e => hno _ hm (hb.trans e.symm)⟩
def sortVNil : Vm.Spec := fun args h Q => args = [.v (.slice none 0 0)] ∧ Q (.tup []) h
theorem does_sortVNil {f : FuncId} (hcall : Callable Tryz.prog f) (key : ∀ w : World, Calls Tryz.prog f #[.slice none 0 0] w fun e w' => e = .returned (.tuple #[]) ∧ w' = w) : Does Tryz.prog f sortVNil := by
  refine ⟨hcall, ?_⟩
  rintro args h Q ⟨rfl, hq⟩ w g vs hvs hrep hh hfr hlaid
  have hv0 : vs.getD 0 undef = .slice none 0 0 := (rep_v (hrep 0 _ rfl)).1
  have hvs2 : vs = #[.slice none 0 0] := by
    have h2 : vs.size = 1 := hvs
    apply Array.ext
    · simpa using h2
    · intro i hi1 hi2
      have : i = 0 := by omega
      subst this
      simpa [Array.getD, h2] using hv0
  rw [hvs2]
  refine (key w).mono ?_
  rintro e' w' ⟨rfl, rfl⟩
  exact ⟨.tup [], h, g, .tuple #[], hq, rfl, .tup rfl (fun j u hu => by simp at hu), hh, ⟨rfl, rfl, rfl, Nat.le_refl _, fun _ _ _ => rfl⟩, Nat.le_refl _, fun _ _ => rfl, fun _ _ => rfl, fun i hi h1 => by omega, hfr⟩
theorem does_sortS : Does Tryz.prog 252 (orS (sortVSpec strK fun _ => True) sortVNil) :=
  have hc : Callable Tryz.prog 252 := ⟨Tryz.f252, Tryz.func252, by kernel_rfl, by decide +kernel⟩
  does_or (does_sortV strK (fun _ => rfl) (fun _ => rfl) hc fun blk cap l w hH hb hl => (Any.slices_Sort_string Tryz.sortStr blk 0 cap l w hH hb hl).mono fun e w' ⟨h1, n, os, h2⟩ => ⟨h1, n, os, _, ⟨List.mergeSort_perm .., trivial⟩, h2⟩)
    (does_sortVNil hc fun w => Any.slices_Sort_string_none Tryz.sortStr none 0 w)
end Go.Proofs.Lx
/- A view's changes; what is committed, what is forgotten: the walks. -/
set_option linter.unusedSimpArgs false
set_option linter.unusedVariables false
namespace Go.Proofs.Lx
open Go.Vm
attribute [local irreducible] awpArr awpBin awpMake awpAppend awpCvX awpStrOf awpBinX awpSlice awpBS awpStore awpAlloc awpCopy awpIndex awpDraw awpIdxX awpFa awpField awpLookup awpUpdate awpDelete awpClear awpRange awpNext awpEntry awpBuild awpClearS awpIdxL awpTree appB awpIdxO eltA treeA
def keysSpec : Vm.Spec := fun args h Q => ∃ (ic : Nat) (chg : List Ent) (clk : Nat), args = [.mp ic] ∧ h[ic]? = some (.map chg clk) ∧ (∀ e ∈ chg, WfC e) ∧ Born chg clk ∧ chg.length ≤ 1073741824 ∧ (∀ e ∈ chg, (kOf e).length ≤ 32) ∧
  ∀ l : List (List UInt8), l.length ≤ chg.length → (∀ k ∈ l, k.length ≤ 32) → Q (.own true 9 1 (l.map (vAv strK))) h
set_option maxRecDepth 20000 in
set_option maxHeartbeats 1000000 in
theorem does_keys : Does Tryz.prog 219 keysSpec := by
  refine does_of_awp (good_cons does_sortS good_nil) Tryz.func219 rfl (by decide +kernel) (by decide +kernel) ?_
  rintro args h Q ⟨ic, chg, clk, rfl, g0, hw, hb, hn, hk32, hq⟩
  refine ⟨by simp [Tryz.f219], ?_⟩
  rw [awpFunc_some (by rfl)]
  simp -dsimp only [Vm.E, List.lookup, Nat.reduceAdd, Nat.reduceBEq, Int.reduceBNe, Int.reduceBEq, Bool.true_beq, Bool.false_beq, Vm.S, Nat.reduceLeDiff, q219]
  refine range_intro mt126 chg clk g0 ?_
  simp -dsimp only [Vm.E, List.lookup, Nat.reduceAdd, Nat.reduceBEq, Int.reduceBNe, Int.reduceBEq, Bool.true_beq, Bool.false_beq, Vm.S, Nat.reduceLeDiff, q219]
  refine awp_loop (fun m s h' => ∃ done : List Ent, m = (leftE chg (done.map (·.born))).length ∧ done.length + m ≤ chg.length ∧ h' = h ∧ (∀ d ∈ done, d ∈ chg) ∧ (done.map (·.born)).Nodup ∧ s = mk [(3, .own true 9 1 (((done).map kOf).map (vAv strK))), (6, .iter ic clk ((done).map (·.born)) clk)])
    chg.length _ (le_mk _ ?_) ⟨[], (congrArg List.length (List.filter_eq_self.2 fun _ _ => rfl)).symm, by simp, rfl, by simp, by simp, rfl⟩ ?_
  · simp only [List.forall_mem_cons, List.not_mem_nil, false_imp_iff, implies_true, and_true]
    try simp -dsimp only [Vm.E, List.lookup, Nat.reduceAdd, Nat.reduceBEq, Int.reduceBNe, Int.reduceBEq, Bool.true_beq, Bool.false_beq, Vm.S, Nat.reduceLeDiff, q219]
    repeat' first | exact Fg.refl _ | exact Fg.nil _ _ _ (by decide) | refine And.intro ?_ ?_
  · rintro m s h' ⟨done, rfl, hlen, rfl, hd, hdn, rfl⟩
    simp -dsimp only [Vm.E, List.lookup, Nat.reduceAdd, Nat.reduceBEq, Int.reduceBNe, Int.reduceBEq, Bool.true_beq, Bool.false_beq, Vm.S, Nat.reduceLeDiff, q219]
    refine next_intro chg clk g0 (fun e he => hb.2 e he) (Nat.le_refl _) (fun hlf => ?_) (fun e he => ?_)
    · have hD : done.Perm chg := seen_all hb.1.1 hd hdn hlf
      have hdl := hD.length_eq
      simp -dsimp only [Vm.E, List.lookup, Nat.reduceAdd, Nat.reduceBEq, Int.reduceBNe, Int.reduceBEq, Bool.true_beq, Bool.false_beq, Vm.S, Nat.reduceLeDiff, q219]
      refine call_in _ _ _ ?_
      simp -dsimp only [Vm.E, List.lookup, Nat.reduceAdd, Nat.reduceBEq, Int.reduceBNe, Int.reduceBEq, Bool.true_beq, Bool.false_beq, Vm.S, Nat.reduceLeDiff, q219, callI_eq, ownSl_own, ownSl_alias]
      refine callI_tup (S := orS (sortVSpec strK fun _ => True) sortVNil) (fun xs' => ∃ l' : List (List UInt8), xs' = l'.map (vAv strK) ∧ l'.Perm (done.map kOf)) rfl
        (fun xs' hx => ?_) (fun hx => ⟨?_, fun Q' hq' => .inr ⟨rfl, hq'⟩⟩) (fun c hc Q' hq' => .inl ⟨done.map kOf, _, c, 9, by rw [List.length_map], rfl, by rw [List.length_map]; omega, by rw [List.length_map] at hc; exact hc, fun l' hp _ => hq' _ _ ⟨l', rfl, hp⟩ ?_⟩) (fun xs' hx => ?_)
      · obtain ⟨l', rfl, hp⟩ := hx
        exact ⟨fun x hx => (hp.map _).mem_iff.1 hx, by rw [List.length_map, List.length_map, hp.length_eq]⟩
      · have hnil : done.map kOf = [] := List.map_eq_nil_iff.1 hx
        exact ⟨[], rfl, by rw [hnil]⟩
      · rw [List.take_of_length_le]
        rw [flat_v, List.length_map, Nat.mul_one]
        exact Nat.le_refl _
      · obtain ⟨l', rfl, hp⟩ := hx
        have hll := hp.length_eq
        rw [List.length_map] at hll
        have hks : ∀ k ∈ l', k.length ≤ 32 := fun k hk => by
          obtain ⟨e, he, rfl⟩ := List.mem_map.1 (hp.mem_iff.1 hk)
          exact hk32 e (hd e he)
        simp -dsimp only [Vm.E, List.lookup, Nat.reduceAdd, Nat.reduceBEq, Int.reduceBNe, Int.reduceBEq, Bool.true_beq, Bool.false_beq, Vm.S, Nat.reduceLeDiff, q219]
        exact hq l' (by omega) hks
    · obtain ⟨hem, heb⟩ := left_mem he
      obtain ⟨⟨k, hk⟩, x, l, b, hx, hl, hev⟩ := hw e hem
      obtain ⟨hd2, hdn2⟩ := done_more he hd hdn
      have hless := left_less he
      have emap : (done ++ [e]).map (·.born) = done.map (·.born) ++ [e.born] := by simp
      have hkk := kOf_eq hk
      simp -dsimp only [Vm.E, List.lookup, Nat.reduceAdd, Nat.reduceBEq, Int.reduceBNe, Int.reduceBEq, Bool.true_beq, Bool.false_beq, Vm.S, Nat.reduceLeDiff, q219]
      refine entry_intro chg clk e g0 (find_born hb.1.1 hem) ?_
      simp only [hk, strK]
      simp -dsimp only [Vm.E, List.lookup, Nat.reduceAdd, Nat.reduceBEq, Int.reduceBNe, Int.reduceBEq, Bool.true_beq, Bool.false_beq, Vm.S, Nat.reduceLeDiff, q219]
      refine bs_intro zr9 (by decide) (by decide) rfl rfl (by simp [solid, AV.cells]) ?_
      simp -dsimp only [Vm.E, List.lookup, Nat.reduceAdd, Nat.reduceBEq, Int.reduceBNe, Int.reduceBEq, Bool.true_beq, Bool.false_beq, Vm.S, Nat.reduceLeDiff, q219]
      refine app_sl Tryz.underlying262 (by simp [AV.cells]) (by simp only [List.length_map, List.length_cons, List.length_nil]; omega) ?_
      simp -dsimp only [Vm.E, List.lookup, Nat.reduceAdd, Nat.reduceBEq, Int.reduceBNe, Int.reduceBEq, Bool.true_beq, Bool.false_beq, Vm.S, Nat.reduceLeDiff, q219]
      refine kept_intro ⟨_, hless, _, le_mk [(3, .own true 9 1 (((done ++ [e]).map kOf).map (vAv strK))), (6, .iter ic clk ((done ++ [e]).map (·.born)) clk)] ?_, done ++ [e], by rw [emap], by rw [List.length_append]; simp only [List.length_cons, List.length_nil]; omega, rfl, hd2, hdn2, rfl⟩
      simp only [List.forall_mem_cons, List.not_mem_nil, false_imp_iff, implies_true, and_true, List.map_append, List.map_cons, List.map_nil, hkk, vAv, strK]
      try simp -dsimp only [Vm.E, List.lookup, Nat.reduceAdd, Nat.reduceBEq, Int.reduceBNe, Int.reduceBEq, Bool.true_beq, Bool.false_beq, Vm.S, Nat.reduceLeDiff, q219, List.map_append, List.map_cons, List.map_nil, hkk, vAv, strK]
      repeat' first | exact Fg.refl _ | exact Fg.nil _ _ _ (by decide) | refine And.intro ?_ ?_
/-- What stood beneath, as bytes that are there. -/
def wasWSpec : Vm.Spec := fun args h Q => ∃ (iv ic im : Nat) (mem : List Ent) (clk : Nat) (k : List UInt8), args = [.ptr iv 0, .sl 1 (k.map encB)] ∧ h[iv]? = some (vobj ic im) ∧ h[im]? = some (.map mem clk) ∧ (∀ e ∈ mem, WfM e) ∧
  ∀ (l : List UInt8) (b : Bool), Q (.tup [.sl 1 (l.map encB), .v (.bool b)]) h
theorem does_wasW : Does Tryz.prog 220 wasWSpec := by
  refine does_vwas.weak.imp ?_
  rintro args h Q ⟨iv, ic, im, mem, clk, k, rfl, h1, h2, hw, hq⟩
  refine ⟨iv, ic, im, mem, clk, k, rfl, h1, h2, hw, fun e he => ?_, fun he => ?_⟩
  · obtain ⟨-, l, hx, -⟩ := hw e (mget_mem he)
    exact ⟨_, .tup (.cons hx.ga GaL.rfl), hq l true⟩
  · exact ⟨_, .tup (.cons (.nil 1) GaL.rfl), hq [] false⟩
theorem lookup_shape {t kt et : TypeId} {P : Program} {id : Nat} {h : Heap} {K : AV → Prop} {z : Value} (hm : MapT P t kt et .string) (hz : (P.info? et).bind (·.zero) = some z) (hcz : cst z = .agg [.v (.slice none 0 0), .v (.bool false)]) (chg : List Ent) (clk : Nat) (hh : h[id]? = some (.map chg clk)) (hw : ∀ e ∈ chg, WfC e) (k : List UInt8)
    (hK : ∀ x l b, isB x l → l.length ≤ 120 → K (.agg [x, .v (.bool b)])) : awpLookup P t (.mp id) (.v (.string ⟨k.toArray⟩)) false h K := by
  refine lookup_intro hm hz chg clk hh trivial (keys_str fun e he => (hw e he).1) (fun e he => ?_) (fun he => ?_)
  · obtain ⟨-, x, l, b, hx, hl, hev⟩ := hw e (mget_mem he)
    show K e.val
    rw [hev]; exact hK x l b hx hl
  · show K (cst z)
    rw [hcz]; exact hK _ [] false (.inr ⟨rfl, rfl⟩) (by simp)
theorem len_snoc {α : Type} {l : List α} {x : α} {i : Nat} (h : l.length ≤ i) : (l ++ [x]).length ≤ i + 1 := by rw [List.length_append, List.length_singleton]; omega
def changesSpec : Vm.Spec := fun args h Q => ∃ (V : VId) (f : Fun), args = [.ptr V.iv 0] ∧ isView h V f ∧ f.n ≤ 536870912 ∧ ∀ (p : List KV) (d : List (List UInt8)), Q (.tup [.sl 2 (p.map kvAv), .sl 1 (d.map fun k => .sl 1 (k.map encB))]) h
set_option maxRecDepth 20000 in
set_option maxHeartbeats 8000000 in
theorem does_changes : Does Tryz.prog 141 changesSpec := by
  refine does_of_awp (good_cons does_vready (good_cons does_keys (good_cons does_wasW (good_cons does_equal (good_cons does_cloneW good_nil))))) Tryz.func141 rfl (by decide +kernel) (by decide +kernel) ?_
  rintro args h Q ⟨V, f, rfl, ⟨chg, clk, mem, clk2, h1, h2, h3, h4, h5, h6, h7, hlen, hk32⟩, hfn, hq⟩
  refine ⟨by simp [Tryz.f141], ?_⟩
  rw [awpFunc_some (by rfl)]
  simp -dsimp only [Vm.E, List.lookup, Nat.reduceAdd, Nat.reduceBEq, Int.reduceBNe, Int.reduceBEq, Bool.true_beq, Bool.false_beq, Vm.S, Nat.reduceLeDiff, q141]
  refine call_one (S := vreadySpec) rfl _ GaL.rfl ⟨V.iv, V.ic, _, rfl, h1, ?_⟩
  simp -dsimp only [Vm.E, List.lookup, Nat.reduceAdd, Nat.reduceBEq, Int.reduceBNe, Int.reduceBEq, Bool.true_beq, Bool.false_beq, Vm.S, Nat.reduceLeDiff, q141, h1]
  refine call_one (S := keysSpec) rfl _ GaL.rfl ⟨V.ic, chg, clk, rfl, h2, h5.1, h6.1, by omega, fun e he => hk32 e (.inl he), fun ks hkl hks32 => ?_⟩
  simp -dsimp only [Vm.E, List.lookup, Nat.reduceAdd, Nat.reduceBEq, Int.reduceBNe, Int.reduceBEq, Bool.true_beq, Bool.false_beq, Vm.S, Nat.reduceLeDiff, q141]
  refine awp_loop (fun m s h' => ∃ (i : Nat) (pu : List KV) (de : List (List UInt8)), i + m = ks.length ∧ h' = h ∧ pu.length ≤ i ∧ de.length ≤ i ∧ s = mk [(0, .ptr V.iv 0), (4, .own true 155 2 ((pu).map kvAv)), (5, .own true 32 1 ((de).map fun k => AV.sl 1 (k.map encB))), (18, .own true 9 1 (ks.map (vAv strK))), (19, .v (.int .i64 ks.length)), (20, .v (.int .i64 (i : Nat)))])
    ks.length _ (le_mk _ ?_) ⟨0, [], [], by omega, rfl, by simp, by simp, rfl⟩ ?_
  · simp only [List.forall_mem_cons, List.not_mem_nil, false_imp_iff, implies_true, and_true]
    try simp -dsimp only [Vm.E, List.lookup, Nat.reduceAdd, Nat.reduceBEq, Int.reduceBNe, Int.reduceBEq, Bool.true_beq, Bool.false_beq, Vm.S, Nat.reduceLeDiff, q141]
    repeat' first | exact Fg.refl _ | exact Fg.nil _ _ _ (by decide) | refine And.intro ?_ ?_
  · rintro m s h' ⟨i, pu, de, hi, rfl, hpu, hde, rfl⟩
    simp -dsimp only [Vm.E, List.lookup, Nat.reduceAdd, Nat.reduceBEq, Int.reduceBNe, Int.reduceBEq, Bool.true_beq, Bool.false_beq, Vm.S, Nat.reduceLeDiff, q141]
    refine cond_intro (fun hcc => ?_) (fun hcc => ?_)
    · have hlt : i < ks.length := by have := of_decide_eq_true hcc; omega
      have hw2 : IntKind.i64.wrap ((i : Int) + 1) = ((i + 1 : Nat) : Int) := by rw [wrap_i64 (by omega) (by omega)]; simp
      have hgi : (ks.map (vAv strK))[i]? = some (vAv strK ks[i]) := by rw [List.getElem?_map, List.getElem?_eq_getElem hlt]; rfl
      have hk3 := hks32 ks[i] (List.getElem_mem hlt)
      generalize ks[i] = k at hgi hk3
      have hks : (ByteArray.mk k.toArray).size ≤ maxLen := by
        have : (ByteArray.mk k.toArray).size = k.length := by simp [ByteArray.size]
        rw [this]; unfold maxLen; omega
      have hkd : (ByteArray.mk k.toArray).data.toList = k := by simp
      simp -dsimp only [Vm.E, List.lookup, Nat.reduceAdd, Nat.reduceBEq, Int.reduceBNe, Int.reduceBEq, Bool.true_beq, Bool.false_beq, Vm.S, Nat.reduceLeDiff, q141]
      refine idxO_intro (xs := ks.map (vAv strK)) (by omega) (by simp; omega) ?_
      simp -dsimp only [Vm.E, List.lookup, Nat.reduceAdd, Nat.reduceBEq, Int.reduceBNe, Int.reduceBEq, Bool.true_beq, Bool.false_beq, Vm.S, Nat.reduceLeDiff, q141, Int.toNat_natCast]
      refine eltA_intro (xs := ks.map (vAv strK)) hgi ?_
      simp -dsimp only [Vm.E, List.lookup, Nat.reduceAdd, Nat.reduceBEq, Int.reduceBNe, Int.reduceBEq, Bool.true_beq, Bool.false_beq, Vm.S, Nat.reduceLeDiff, q141, vAv, strK, AV.cells, List.drop_zero, h1]
      refine lookup_shape mt126 z217 (by simp [cst, plain]) chg clk h2 h5.1 k (fun x l b hx hl => ?_)
      have hg := hx.ga
      rcases hx with rfl | ⟨hl0, rfl⟩
      · simp -dsimp only [Vm.E, List.lookup, Nat.reduceAdd, Nat.reduceBEq, Int.reduceBNe, Int.reduceBEq, Bool.true_beq, Bool.false_beq, Vm.S, Nat.reduceLeDiff, q141]
        refine cvX_bytes bt32 Tryz.underlying9 hks ?_
        simp -dsimp only [Vm.E, List.lookup, Nat.reduceAdd, Nat.reduceBEq, Int.reduceBNe, Int.reduceBEq, Bool.true_beq, Bool.false_beq, Vm.S, Nat.reduceLeDiff, q141, hkd]
        refine call_one (S := wasWSpec) rfl _ GaL.rfl ⟨V.iv, V.ic, V.im, mem, clk2, k, rfl, h1, h3, h5.2, fun old was => ?_⟩
        cases b
        · cases was
          · simp -dsimp only [Vm.E, List.lookup, Nat.reduceAdd, Nat.reduceBEq, Int.reduceBNe, Int.reduceBEq, Bool.true_beq, Bool.false_beq, Vm.S, Nat.reduceLeDiff, q141]
            refine cvX_bytes bt32 Tryz.underlying9 hks ?_
            simp -dsimp only [Vm.E, List.lookup, Nat.reduceAdd, Nat.reduceBEq, Int.reduceBNe, Int.reduceBEq, Bool.true_beq, Bool.false_beq, Vm.S, Nat.reduceLeDiff, q141, hkd]
            refine call_one (S := cloneWSpec) rfl _ (GaL.cons hg .nil) ⟨l, by omega, rfl, ?_, ?_⟩
            · simp -dsimp only [Vm.E, List.lookup, Nat.reduceAdd, Nat.reduceBEq, Int.reduceBNe, Int.reduceBEq, Bool.true_beq, Bool.false_beq, Vm.S, Nat.reduceLeDiff, q141]
              refine bs_intro zr155 (by decide) (by decide) rfl rfl (by simp [solid, AV.cells]) ?_
              simp -dsimp only [Vm.E, List.lookup, Nat.reduceAdd, Nat.reduceBEq, Int.reduceBNe, Int.reduceBEq, Bool.true_beq, Bool.false_beq, Vm.S, Nat.reduceLeDiff, q141]
              refine app_sl Tryz.underlying65 (by simp [AV.cells]) (by simp only [List.length_map, List.length_cons, List.length_nil]; omega) ?_
              simp -dsimp only [Vm.E, List.lookup, Nat.reduceAdd, Nat.reduceBEq, Int.reduceBNe, Int.reduceBEq, Bool.true_beq, Bool.false_beq, Vm.S, Nat.reduceLeDiff, q141]
              refine kept_intro ⟨ks.length - (i + 1), by omega, _, le_mk [(0, .ptr V.iv 0), (4, .own true 155 2 ((pu ++ [(k, l)]).map kvAv)), (5, .own true 32 1 ((de).map fun k => AV.sl 1 (k.map encB))), (18, .own true 9 1 (ks.map (vAv strK))), (19, .v (.int .i64 ks.length)), (20, .v (.int .i64 (i + 1 : Nat)))] ?_, i + 1, _, _, by omega, rfl, by exact len_snoc hpu, by omega, rfl⟩
              simp only [List.forall_mem_cons, List.not_mem_nil, false_imp_iff, implies_true, and_true, hw2, List.map_append, List.map_cons, List.map_nil, kvAv]
              try simp -dsimp only [Vm.E, List.lookup, Nat.reduceAdd, Nat.reduceBEq, Int.reduceBNe, Int.reduceBEq, Bool.true_beq, Bool.false_beq, Vm.S, Nat.reduceLeDiff, q141, hw2, List.map_append, List.map_cons, List.map_nil, kvAv]
              repeat' first | exact Fg.refl _ | exact Fg.nil _ _ _ (by decide) | refine And.intro ?_ ?_
            · simp -dsimp only [Vm.E, List.lookup, Nat.reduceAdd, Nat.reduceBEq, Int.reduceBNe, Int.reduceBEq, Bool.true_beq, Bool.false_beq, Vm.S, Nat.reduceLeDiff, q141]
              refine bs_intro zr155 (by decide) (by decide) rfl rfl (by simp [solid, AV.cells]) ?_
              simp -dsimp only [Vm.E, List.lookup, Nat.reduceAdd, Nat.reduceBEq, Int.reduceBNe, Int.reduceBEq, Bool.true_beq, Bool.false_beq, Vm.S, Nat.reduceLeDiff, q141]
              refine app_sl Tryz.underlying65 (by simp [AV.cells]) (by simp only [List.length_map, List.length_cons, List.length_nil]; omega) ?_
              simp -dsimp only [Vm.E, List.lookup, Nat.reduceAdd, Nat.reduceBEq, Int.reduceBNe, Int.reduceBEq, Bool.true_beq, Bool.false_beq, Vm.S, Nat.reduceLeDiff, q141]
              refine kept_intro ⟨ks.length - (i + 1), by omega, _, le_mk [(0, .ptr V.iv 0), (4, .own true 155 2 ((pu ++ [(k, l)]).map kvAv)), (5, .own true 32 1 ((de).map fun k => AV.sl 1 (k.map encB))), (18, .own true 9 1 (ks.map (vAv strK))), (19, .v (.int .i64 ks.length)), (20, .v (.int .i64 (i + 1 : Nat)))] ?_, i + 1, _, _, by omega, rfl, by exact len_snoc hpu, by omega, rfl⟩
              simp only [List.forall_mem_cons, List.not_mem_nil, false_imp_iff, implies_true, and_true, hw2, List.map_append, List.map_cons, List.map_nil, kvAv]
              try simp -dsimp only [Vm.E, List.lookup, Nat.reduceAdd, Nat.reduceBEq, Int.reduceBNe, Int.reduceBEq, Bool.true_beq, Bool.false_beq, Vm.S, Nat.reduceLeDiff, q141, hw2, List.map_append, List.map_cons, List.map_nil, kvAv]
              repeat' first | exact Fg.refl _ | exact Fg.nil _ _ _ (by decide) | refine And.intro ?_ ?_
          · simp -dsimp only [Vm.E, List.lookup, Nat.reduceAdd, Nat.reduceBEq, Int.reduceBNe, Int.reduceBEq, Bool.true_beq, Bool.false_beq, Vm.S, Nat.reduceLeDiff, q141]
            refine call_one (S := equalSpec) rfl _ (GaL.cons (.refl _) (GaL.cons hg .nil)) ⟨old, _, rfl, ?_⟩
            have he := Bool.eq_false_or_eq_true (old == l)
            rcases he with c | c
            · simp -dsimp only [Vm.E, List.lookup, Nat.reduceAdd, Nat.reduceBEq, Int.reduceBNe, Int.reduceBEq, Bool.true_beq, Bool.false_beq, Vm.S, Nat.reduceLeDiff, q141, c]
              refine kept_intro ⟨ks.length - (i + 1), by omega, _, le_mk [(0, .ptr V.iv 0), (4, .own true 155 2 ((pu).map kvAv)), (5, .own true 32 1 ((de).map fun k => AV.sl 1 (k.map encB))), (18, .own true 9 1 (ks.map (vAv strK))), (19, .v (.int .i64 ks.length)), (20, .v (.int .i64 (i + 1 : Nat)))] ?_, i + 1, _, _, by omega, rfl, by omega, by omega, rfl⟩
              simp only [List.forall_mem_cons, List.not_mem_nil, false_imp_iff, implies_true, and_true, hw2, List.map_append, List.map_cons, List.map_nil, kvAv]
              try simp -dsimp only [Vm.E, List.lookup, Nat.reduceAdd, Nat.reduceBEq, Int.reduceBNe, Int.reduceBEq, Bool.true_beq, Bool.false_beq, Vm.S, Nat.reduceLeDiff, q141, hw2, List.map_append, List.map_cons, List.map_nil, kvAv]
              repeat' first | exact Fg.refl _ | exact Fg.nil _ _ _ (by decide) | refine And.intro ?_ ?_
            · simp -dsimp only [Vm.E, List.lookup, Nat.reduceAdd, Nat.reduceBEq, Int.reduceBNe, Int.reduceBEq, Bool.true_beq, Bool.false_beq, Vm.S, Nat.reduceLeDiff, q141, c]
              refine cvX_bytes bt32 Tryz.underlying9 hks ?_
              simp -dsimp only [Vm.E, List.lookup, Nat.reduceAdd, Nat.reduceBEq, Int.reduceBNe, Int.reduceBEq, Bool.true_beq, Bool.false_beq, Vm.S, Nat.reduceLeDiff, q141, hkd]
              refine call_one (S := cloneWSpec) rfl _ (GaL.cons hg .nil) ⟨l, by omega, rfl, ?_, ?_⟩
              · simp -dsimp only [Vm.E, List.lookup, Nat.reduceAdd, Nat.reduceBEq, Int.reduceBNe, Int.reduceBEq, Bool.true_beq, Bool.false_beq, Vm.S, Nat.reduceLeDiff, q141]
                refine bs_intro zr155 (by decide) (by decide) rfl rfl (by simp [solid, AV.cells]) ?_
                simp -dsimp only [Vm.E, List.lookup, Nat.reduceAdd, Nat.reduceBEq, Int.reduceBNe, Int.reduceBEq, Bool.true_beq, Bool.false_beq, Vm.S, Nat.reduceLeDiff, q141]
                refine app_sl Tryz.underlying65 (by simp [AV.cells]) (by simp only [List.length_map, List.length_cons, List.length_nil]; omega) ?_
                simp -dsimp only [Vm.E, List.lookup, Nat.reduceAdd, Nat.reduceBEq, Int.reduceBNe, Int.reduceBEq, Bool.true_beq, Bool.false_beq, Vm.S, Nat.reduceLeDiff, q141]
                refine kept_intro ⟨ks.length - (i + 1), by omega, _, le_mk [(0, .ptr V.iv 0), (4, .own true 155 2 ((pu ++ [(k, l)]).map kvAv)), (5, .own true 32 1 ((de).map fun k => AV.sl 1 (k.map encB))), (18, .own true 9 1 (ks.map (vAv strK))), (19, .v (.int .i64 ks.length)), (20, .v (.int .i64 (i + 1 : Nat)))] ?_, i + 1, _, _, by omega, rfl, by exact len_snoc hpu, by omega, rfl⟩
                simp only [List.forall_mem_cons, List.not_mem_nil, false_imp_iff, implies_true, and_true, hw2, List.map_append, List.map_cons, List.map_nil, kvAv]
                try simp -dsimp only [Vm.E, List.lookup, Nat.reduceAdd, Nat.reduceBEq, Int.reduceBNe, Int.reduceBEq, Bool.true_beq, Bool.false_beq, Vm.S, Nat.reduceLeDiff, q141, hw2, List.map_append, List.map_cons, List.map_nil, kvAv]
                repeat' first | exact Fg.refl _ | exact Fg.nil _ _ _ (by decide) | refine And.intro ?_ ?_
              · simp -dsimp only [Vm.E, List.lookup, Nat.reduceAdd, Nat.reduceBEq, Int.reduceBNe, Int.reduceBEq, Bool.true_beq, Bool.false_beq, Vm.S, Nat.reduceLeDiff, q141]
                refine bs_intro zr155 (by decide) (by decide) rfl rfl (by simp [solid, AV.cells]) ?_
                simp -dsimp only [Vm.E, List.lookup, Nat.reduceAdd, Nat.reduceBEq, Int.reduceBNe, Int.reduceBEq, Bool.true_beq, Bool.false_beq, Vm.S, Nat.reduceLeDiff, q141]
                refine app_sl Tryz.underlying65 (by simp [AV.cells]) (by simp only [List.length_map, List.length_cons, List.length_nil]; omega) ?_
                simp -dsimp only [Vm.E, List.lookup, Nat.reduceAdd, Nat.reduceBEq, Int.reduceBNe, Int.reduceBEq, Bool.true_beq, Bool.false_beq, Vm.S, Nat.reduceLeDiff, q141]
                refine kept_intro ⟨ks.length - (i + 1), by omega, _, le_mk [(0, .ptr V.iv 0), (4, .own true 155 2 ((pu ++ [(k, l)]).map kvAv)), (5, .own true 32 1 ((de).map fun k => AV.sl 1 (k.map encB))), (18, .own true 9 1 (ks.map (vAv strK))), (19, .v (.int .i64 ks.length)), (20, .v (.int .i64 (i + 1 : Nat)))] ?_, i + 1, _, _, by omega, rfl, by exact len_snoc hpu, by omega, rfl⟩
                simp only [List.forall_mem_cons, List.not_mem_nil, false_imp_iff, implies_true, and_true, hw2, List.map_append, List.map_cons, List.map_nil, kvAv]
                try simp -dsimp only [Vm.E, List.lookup, Nat.reduceAdd, Nat.reduceBEq, Int.reduceBNe, Int.reduceBEq, Bool.true_beq, Bool.false_beq, Vm.S, Nat.reduceLeDiff, q141, hw2, List.map_append, List.map_cons, List.map_nil, kvAv]
                repeat' first | exact Fg.refl _ | exact Fg.nil _ _ _ (by decide) | refine And.intro ?_ ?_
        · cases was
          · simp -dsimp only [Vm.E, List.lookup, Nat.reduceAdd, Nat.reduceBEq, Int.reduceBNe, Int.reduceBEq, Bool.true_beq, Bool.false_beq, Vm.S, Nat.reduceLeDiff, q141]
            refine kept_intro ⟨ks.length - (i + 1), by omega, _, le_mk [(0, .ptr V.iv 0), (4, .own true 155 2 ((pu).map kvAv)), (5, .own true 32 1 ((de).map fun k => AV.sl 1 (k.map encB))), (18, .own true 9 1 (ks.map (vAv strK))), (19, .v (.int .i64 ks.length)), (20, .v (.int .i64 (i + 1 : Nat)))] ?_, i + 1, _, _, by omega, rfl, by omega, by omega, rfl⟩
            simp only [List.forall_mem_cons, List.not_mem_nil, false_imp_iff, implies_true, and_true, hw2, List.map_append, List.map_cons, List.map_nil, kvAv]
            try simp -dsimp only [Vm.E, List.lookup, Nat.reduceAdd, Nat.reduceBEq, Int.reduceBNe, Int.reduceBEq, Bool.true_beq, Bool.false_beq, Vm.S, Nat.reduceLeDiff, q141, hw2, List.map_append, List.map_cons, List.map_nil, kvAv]
            repeat' first | exact Fg.refl _ | exact Fg.nil _ _ _ (by decide) | refine And.intro ?_ ?_
          · simp -dsimp only [Vm.E, List.lookup, Nat.reduceAdd, Nat.reduceBEq, Int.reduceBNe, Int.reduceBEq, Bool.true_beq, Bool.false_beq, Vm.S, Nat.reduceLeDiff, q141]
            refine cvX_bytes bt32 Tryz.underlying9 hks ?_
            simp -dsimp only [Vm.E, List.lookup, Nat.reduceAdd, Nat.reduceBEq, Int.reduceBNe, Int.reduceBEq, Bool.true_beq, Bool.false_beq, Vm.S, Nat.reduceLeDiff, q141, hkd]
            refine bs_intro zr32 (by decide) (by decide) rfl rfl (by simp [solid, AV.cells]) ?_
            simp -dsimp only [Vm.E, List.lookup, Nat.reduceAdd, Nat.reduceBEq, Int.reduceBNe, Int.reduceBEq, Bool.true_beq, Bool.false_beq, Vm.S, Nat.reduceLeDiff, q141]
            refine app_sl Tryz.underlying194 (by simp [AV.cells]) (by simp only [List.length_map, List.length_cons, List.length_nil]; omega) ?_
            simp -dsimp only [Vm.E, List.lookup, Nat.reduceAdd, Nat.reduceBEq, Int.reduceBNe, Int.reduceBEq, Bool.true_beq, Bool.false_beq, Vm.S, Nat.reduceLeDiff, q141]
            refine kept_intro ⟨ks.length - (i + 1), by omega, _, le_mk [(0, .ptr V.iv 0), (4, .own true 155 2 ((pu).map kvAv)), (5, .own true 32 1 ((de ++ [k]).map fun k => AV.sl 1 (k.map encB))), (18, .own true 9 1 (ks.map (vAv strK))), (19, .v (.int .i64 ks.length)), (20, .v (.int .i64 (i + 1 : Nat)))] ?_, i + 1, _, _, by omega, rfl, by omega, by exact len_snoc hde, rfl⟩
            simp only [List.forall_mem_cons, List.not_mem_nil, false_imp_iff, implies_true, and_true, hw2, List.map_append, List.map_cons, List.map_nil, kvAv]
            try simp -dsimp only [Vm.E, List.lookup, Nat.reduceAdd, Nat.reduceBEq, Int.reduceBNe, Int.reduceBEq, Bool.true_beq, Bool.false_beq, Vm.S, Nat.reduceLeDiff, q141, hw2, List.map_append, List.map_cons, List.map_nil, kvAv]
            repeat' first | exact Fg.refl _ | exact Fg.nil _ _ _ (by decide) | refine And.intro ?_ ?_
      · simp -dsimp only [Vm.E, List.lookup, Nat.reduceAdd, Nat.reduceBEq, Int.reduceBNe, Int.reduceBEq, Bool.true_beq, Bool.false_beq, Vm.S, Nat.reduceLeDiff, q141]
        refine cvX_bytes bt32 Tryz.underlying9 hks ?_
        simp -dsimp only [Vm.E, List.lookup, Nat.reduceAdd, Nat.reduceBEq, Int.reduceBNe, Int.reduceBEq, Bool.true_beq, Bool.false_beq, Vm.S, Nat.reduceLeDiff, q141, hkd]
        refine call_one (S := wasWSpec) rfl _ GaL.rfl ⟨V.iv, V.ic, V.im, mem, clk2, k, rfl, h1, h3, h5.2, fun old was => ?_⟩
        cases b
        · cases was
          · simp -dsimp only [Vm.E, List.lookup, Nat.reduceAdd, Nat.reduceBEq, Int.reduceBNe, Int.reduceBEq, Bool.true_beq, Bool.false_beq, Vm.S, Nat.reduceLeDiff, q141]
            refine cvX_bytes bt32 Tryz.underlying9 hks ?_
            simp -dsimp only [Vm.E, List.lookup, Nat.reduceAdd, Nat.reduceBEq, Int.reduceBNe, Int.reduceBEq, Bool.true_beq, Bool.false_beq, Vm.S, Nat.reduceLeDiff, q141, hkd]
            refine call_one (S := cloneWSpec) rfl _ (GaL.cons hg .nil) ⟨l, by omega, rfl, ?_, ?_⟩
            · simp -dsimp only [Vm.E, List.lookup, Nat.reduceAdd, Nat.reduceBEq, Int.reduceBNe, Int.reduceBEq, Bool.true_beq, Bool.false_beq, Vm.S, Nat.reduceLeDiff, q141]
              refine bs_intro zr155 (by decide) (by decide) rfl rfl (by simp [solid, AV.cells]) ?_
              simp -dsimp only [Vm.E, List.lookup, Nat.reduceAdd, Nat.reduceBEq, Int.reduceBNe, Int.reduceBEq, Bool.true_beq, Bool.false_beq, Vm.S, Nat.reduceLeDiff, q141]
              refine app_sl Tryz.underlying65 (by simp [AV.cells]) (by simp only [List.length_map, List.length_cons, List.length_nil]; omega) ?_
              simp -dsimp only [Vm.E, List.lookup, Nat.reduceAdd, Nat.reduceBEq, Int.reduceBNe, Int.reduceBEq, Bool.true_beq, Bool.false_beq, Vm.S, Nat.reduceLeDiff, q141]
              refine kept_intro ⟨ks.length - (i + 1), by omega, _, le_mk [(0, .ptr V.iv 0), (4, .own true 155 2 ((pu ++ [(k, l)]).map kvAv)), (5, .own true 32 1 ((de).map fun k => AV.sl 1 (k.map encB))), (18, .own true 9 1 (ks.map (vAv strK))), (19, .v (.int .i64 ks.length)), (20, .v (.int .i64 (i + 1 : Nat)))] ?_, i + 1, _, _, by omega, rfl, by exact len_snoc hpu, by omega, rfl⟩
              simp only [List.forall_mem_cons, List.not_mem_nil, false_imp_iff, implies_true, and_true, hw2, List.map_append, List.map_cons, List.map_nil, kvAv]
              try simp -dsimp only [Vm.E, List.lookup, Nat.reduceAdd, Nat.reduceBEq, Int.reduceBNe, Int.reduceBEq, Bool.true_beq, Bool.false_beq, Vm.S, Nat.reduceLeDiff, q141, hw2, List.map_append, List.map_cons, List.map_nil, kvAv]
              repeat' first | exact Fg.refl _ | exact Fg.nil _ _ _ (by decide) | refine And.intro ?_ ?_
            · simp -dsimp only [Vm.E, List.lookup, Nat.reduceAdd, Nat.reduceBEq, Int.reduceBNe, Int.reduceBEq, Bool.true_beq, Bool.false_beq, Vm.S, Nat.reduceLeDiff, q141]
              refine bs_intro zr155 (by decide) (by decide) rfl rfl (by simp [solid, AV.cells]) ?_
              simp -dsimp only [Vm.E, List.lookup, Nat.reduceAdd, Nat.reduceBEq, Int.reduceBNe, Int.reduceBEq, Bool.true_beq, Bool.false_beq, Vm.S, Nat.reduceLeDiff, q141]
              refine app_sl Tryz.underlying65 (by simp [AV.cells]) (by simp only [List.length_map, List.length_cons, List.length_nil]; omega) ?_
              simp -dsimp only [Vm.E, List.lookup, Nat.reduceAdd, Nat.reduceBEq, Int.reduceBNe, Int.reduceBEq, Bool.true_beq, Bool.false_beq, Vm.S, Nat.reduceLeDiff, q141]
              refine kept_intro ⟨ks.length - (i + 1), by omega, _, le_mk [(0, .ptr V.iv 0), (4, .own true 155 2 ((pu ++ [(k, l)]).map kvAv)), (5, .own true 32 1 ((de).map fun k => AV.sl 1 (k.map encB))), (18, .own true 9 1 (ks.map (vAv strK))), (19, .v (.int .i64 ks.length)), (20, .v (.int .i64 (i + 1 : Nat)))] ?_, i + 1, _, _, by omega, rfl, by exact len_snoc hpu, by omega, rfl⟩
              simp only [List.forall_mem_cons, List.not_mem_nil, false_imp_iff, implies_true, and_true, hw2, List.map_append, List.map_cons, List.map_nil, kvAv]
              try simp -dsimp only [Vm.E, List.lookup, Nat.reduceAdd, Nat.reduceBEq, Int.reduceBNe, Int.reduceBEq, Bool.true_beq, Bool.false_beq, Vm.S, Nat.reduceLeDiff, q141, hw2, List.map_append, List.map_cons, List.map_nil, kvAv]
              repeat' first | exact Fg.refl _ | exact Fg.nil _ _ _ (by decide) | refine And.intro ?_ ?_
          · simp -dsimp only [Vm.E, List.lookup, Nat.reduceAdd, Nat.reduceBEq, Int.reduceBNe, Int.reduceBEq, Bool.true_beq, Bool.false_beq, Vm.S, Nat.reduceLeDiff, q141]
            refine call_one (S := equalSpec) rfl _ (GaL.cons (.refl _) (GaL.cons hg .nil)) ⟨old, _, rfl, ?_⟩
            have he := Bool.eq_false_or_eq_true (old == l)
            rcases he with c | c
            · simp -dsimp only [Vm.E, List.lookup, Nat.reduceAdd, Nat.reduceBEq, Int.reduceBNe, Int.reduceBEq, Bool.true_beq, Bool.false_beq, Vm.S, Nat.reduceLeDiff, q141, c]
              refine kept_intro ⟨ks.length - (i + 1), by omega, _, le_mk [(0, .ptr V.iv 0), (4, .own true 155 2 ((pu).map kvAv)), (5, .own true 32 1 ((de).map fun k => AV.sl 1 (k.map encB))), (18, .own true 9 1 (ks.map (vAv strK))), (19, .v (.int .i64 ks.length)), (20, .v (.int .i64 (i + 1 : Nat)))] ?_, i + 1, _, _, by omega, rfl, by omega, by omega, rfl⟩
              simp only [List.forall_mem_cons, List.not_mem_nil, false_imp_iff, implies_true, and_true, hw2, List.map_append, List.map_cons, List.map_nil, kvAv]
              try simp -dsimp only [Vm.E, List.lookup, Nat.reduceAdd, Nat.reduceBEq, Int.reduceBNe, Int.reduceBEq, Bool.true_beq, Bool.false_beq, Vm.S, Nat.reduceLeDiff, q141, hw2, List.map_append, List.map_cons, List.map_nil, kvAv]
              repeat' first | exact Fg.refl _ | exact Fg.nil _ _ _ (by decide) | refine And.intro ?_ ?_
            · simp -dsimp only [Vm.E, List.lookup, Nat.reduceAdd, Nat.reduceBEq, Int.reduceBNe, Int.reduceBEq, Bool.true_beq, Bool.false_beq, Vm.S, Nat.reduceLeDiff, q141, c]
              refine cvX_bytes bt32 Tryz.underlying9 hks ?_
              simp -dsimp only [Vm.E, List.lookup, Nat.reduceAdd, Nat.reduceBEq, Int.reduceBNe, Int.reduceBEq, Bool.true_beq, Bool.false_beq, Vm.S, Nat.reduceLeDiff, q141, hkd]
              refine call_one (S := cloneWSpec) rfl _ (GaL.cons hg .nil) ⟨l, by omega, rfl, ?_, ?_⟩
              · simp -dsimp only [Vm.E, List.lookup, Nat.reduceAdd, Nat.reduceBEq, Int.reduceBNe, Int.reduceBEq, Bool.true_beq, Bool.false_beq, Vm.S, Nat.reduceLeDiff, q141]
                refine bs_intro zr155 (by decide) (by decide) rfl rfl (by simp [solid, AV.cells]) ?_
                simp -dsimp only [Vm.E, List.lookup, Nat.reduceAdd, Nat.reduceBEq, Int.reduceBNe, Int.reduceBEq, Bool.true_beq, Bool.false_beq, Vm.S, Nat.reduceLeDiff, q141]
                refine app_sl Tryz.underlying65 (by simp [AV.cells]) (by simp only [List.length_map, List.length_cons, List.length_nil]; omega) ?_
                simp -dsimp only [Vm.E, List.lookup, Nat.reduceAdd, Nat.reduceBEq, Int.reduceBNe, Int.reduceBEq, Bool.true_beq, Bool.false_beq, Vm.S, Nat.reduceLeDiff, q141]
                refine kept_intro ⟨ks.length - (i + 1), by omega, _, le_mk [(0, .ptr V.iv 0), (4, .own true 155 2 ((pu ++ [(k, l)]).map kvAv)), (5, .own true 32 1 ((de).map fun k => AV.sl 1 (k.map encB))), (18, .own true 9 1 (ks.map (vAv strK))), (19, .v (.int .i64 ks.length)), (20, .v (.int .i64 (i + 1 : Nat)))] ?_, i + 1, _, _, by omega, rfl, by exact len_snoc hpu, by omega, rfl⟩
                simp only [List.forall_mem_cons, List.not_mem_nil, false_imp_iff, implies_true, and_true, hw2, List.map_append, List.map_cons, List.map_nil, kvAv]
                try simp -dsimp only [Vm.E, List.lookup, Nat.reduceAdd, Nat.reduceBEq, Int.reduceBNe, Int.reduceBEq, Bool.true_beq, Bool.false_beq, Vm.S, Nat.reduceLeDiff, q141, hw2, List.map_append, List.map_cons, List.map_nil, kvAv]
                repeat' first | exact Fg.refl _ | exact Fg.nil _ _ _ (by decide) | refine And.intro ?_ ?_
              · simp -dsimp only [Vm.E, List.lookup, Nat.reduceAdd, Nat.reduceBEq, Int.reduceBNe, Int.reduceBEq, Bool.true_beq, Bool.false_beq, Vm.S, Nat.reduceLeDiff, q141]
                refine bs_intro zr155 (by decide) (by decide) rfl rfl (by simp [solid, AV.cells]) ?_
                simp -dsimp only [Vm.E, List.lookup, Nat.reduceAdd, Nat.reduceBEq, Int.reduceBNe, Int.reduceBEq, Bool.true_beq, Bool.false_beq, Vm.S, Nat.reduceLeDiff, q141]
                refine app_sl Tryz.underlying65 (by simp [AV.cells]) (by simp only [List.length_map, List.length_cons, List.length_nil]; omega) ?_
                simp -dsimp only [Vm.E, List.lookup, Nat.reduceAdd, Nat.reduceBEq, Int.reduceBNe, Int.reduceBEq, Bool.true_beq, Bool.false_beq, Vm.S, Nat.reduceLeDiff, q141]
                refine kept_intro ⟨ks.length - (i + 1), by omega, _, le_mk [(0, .ptr V.iv 0), (4, .own true 155 2 ((pu ++ [(k, l)]).map kvAv)), (5, .own true 32 1 ((de).map fun k => AV.sl 1 (k.map encB))), (18, .own true 9 1 (ks.map (vAv strK))), (19, .v (.int .i64 ks.length)), (20, .v (.int .i64 (i + 1 : Nat)))] ?_, i + 1, _, _, by omega, rfl, by exact len_snoc hpu, by omega, rfl⟩
                simp only [List.forall_mem_cons, List.not_mem_nil, false_imp_iff, implies_true, and_true, hw2, List.map_append, List.map_cons, List.map_nil, kvAv]
                try simp -dsimp only [Vm.E, List.lookup, Nat.reduceAdd, Nat.reduceBEq, Int.reduceBNe, Int.reduceBEq, Bool.true_beq, Bool.false_beq, Vm.S, Nat.reduceLeDiff, q141, hw2, List.map_append, List.map_cons, List.map_nil, kvAv]
                repeat' first | exact Fg.refl _ | exact Fg.nil _ _ _ (by decide) | refine And.intro ?_ ?_
        · cases was
          · simp -dsimp only [Vm.E, List.lookup, Nat.reduceAdd, Nat.reduceBEq, Int.reduceBNe, Int.reduceBEq, Bool.true_beq, Bool.false_beq, Vm.S, Nat.reduceLeDiff, q141]
            refine kept_intro ⟨ks.length - (i + 1), by omega, _, le_mk [(0, .ptr V.iv 0), (4, .own true 155 2 ((pu).map kvAv)), (5, .own true 32 1 ((de).map fun k => AV.sl 1 (k.map encB))), (18, .own true 9 1 (ks.map (vAv strK))), (19, .v (.int .i64 ks.length)), (20, .v (.int .i64 (i + 1 : Nat)))] ?_, i + 1, _, _, by omega, rfl, by omega, by omega, rfl⟩
            simp only [List.forall_mem_cons, List.not_mem_nil, false_imp_iff, implies_true, and_true, hw2, List.map_append, List.map_cons, List.map_nil, kvAv]
            try simp -dsimp only [Vm.E, List.lookup, Nat.reduceAdd, Nat.reduceBEq, Int.reduceBNe, Int.reduceBEq, Bool.true_beq, Bool.false_beq, Vm.S, Nat.reduceLeDiff, q141, hw2, List.map_append, List.map_cons, List.map_nil, kvAv]
            repeat' first | exact Fg.refl _ | exact Fg.nil _ _ _ (by decide) | refine And.intro ?_ ?_
          · simp -dsimp only [Vm.E, List.lookup, Nat.reduceAdd, Nat.reduceBEq, Int.reduceBNe, Int.reduceBEq, Bool.true_beq, Bool.false_beq, Vm.S, Nat.reduceLeDiff, q141]
            refine cvX_bytes bt32 Tryz.underlying9 hks ?_
            simp -dsimp only [Vm.E, List.lookup, Nat.reduceAdd, Nat.reduceBEq, Int.reduceBNe, Int.reduceBEq, Bool.true_beq, Bool.false_beq, Vm.S, Nat.reduceLeDiff, q141, hkd]
            refine bs_intro zr32 (by decide) (by decide) rfl rfl (by simp [solid, AV.cells]) ?_
            simp -dsimp only [Vm.E, List.lookup, Nat.reduceAdd, Nat.reduceBEq, Int.reduceBNe, Int.reduceBEq, Bool.true_beq, Bool.false_beq, Vm.S, Nat.reduceLeDiff, q141]
            refine app_sl Tryz.underlying194 (by simp [AV.cells]) (by simp only [List.length_map, List.length_cons, List.length_nil]; omega) ?_
            simp -dsimp only [Vm.E, List.lookup, Nat.reduceAdd, Nat.reduceBEq, Int.reduceBNe, Int.reduceBEq, Bool.true_beq, Bool.false_beq, Vm.S, Nat.reduceLeDiff, q141]
            refine kept_intro ⟨ks.length - (i + 1), by omega, _, le_mk [(0, .ptr V.iv 0), (4, .own true 155 2 ((pu).map kvAv)), (5, .own true 32 1 ((de ++ [k]).map fun k => AV.sl 1 (k.map encB))), (18, .own true 9 1 (ks.map (vAv strK))), (19, .v (.int .i64 ks.length)), (20, .v (.int .i64 (i + 1 : Nat)))] ?_, i + 1, _, _, by omega, rfl, by omega, by exact len_snoc hde, rfl⟩
            simp only [List.forall_mem_cons, List.not_mem_nil, false_imp_iff, implies_true, and_true, hw2, List.map_append, List.map_cons, List.map_nil, kvAv]
            try simp -dsimp only [Vm.E, List.lookup, Nat.reduceAdd, Nat.reduceBEq, Int.reduceBNe, Int.reduceBEq, Bool.true_beq, Bool.false_beq, Vm.S, Nat.reduceLeDiff, q141, hw2, List.map_append, List.map_cons, List.map_nil, kvAv]
            repeat' first | exact Fg.refl _ | exact Fg.nil _ _ _ (by decide) | refine And.intro ?_ ?_
    · have hge : ¬ i < ks.length := by have := of_decide_eq_false hcc; omega
      simp -dsimp only [Vm.E, List.lookup, Nat.reduceAdd, Nat.reduceBEq, Int.reduceBNe, Int.reduceBEq, Bool.true_beq, Bool.false_beq, Vm.S, Nat.reduceLeDiff, q141]
      exact hq pu de
theorem heap_set_same {h : Heap} {i : Nat} {x : AObj} (hx : h[i]? = some x) : h.set i x = h := by
  apply List.ext_getElem?
  intro j
  rw [List.getElem?_set]
  split
  · rename_i e; subst e
    split
    · exact hx.symm
    · rename_i hn; exact absurd (get_lt hx) hn
  · rfl
theorem Kept.perm {mem0 done chg mem : List Ent} {clk : Nat} (h : Kept mem0 done mem clk) (hp : done.Perm chg) (hk : ∀ e ∈ chg, ∃ k, e.key = strK k) (hn : (chg.map kOf).Nodup) : Kept mem0 chg mem clk :=
  ⟨h.wf, h.born, by have := hp.length_eq; have := h.len; omega, h.short, fun k => by
    rw [h.now k]
    exact nowOf_perm hp (fun e he => hk e (hp.mem_iff.1 he)) ((hp.map kOf).nodup_iff.2 hn) k⟩
def keepSpec : Vm.Spec := fun args h Q => ∃ (V : VId) (chg mem : List Ent) (clk clk2 : Nat), args = [.ptr V.iv 0] ∧ h[V.iv]? = some (vobj V.ic V.im) ∧ h[V.ic]? = some (.map chg clk) ∧ h[V.im]? = some (.map mem clk2) ∧ (V.iv ≠ V.im ∧ V.ic ≠ V.im) ∧ ((∀ e ∈ chg, WfC e) ∧ ∀ e ∈ mem, WfM e) ∧ (Born chg clk ∧ Born mem clk2) ∧
  (∀ e, e ∈ chg ∨ e ∈ mem → (kOf e).length ≤ 32) ∧ ∀ mem' clk', Kept mem chg mem' clk' → Q (.tup []) (h.set V.im (.map mem' clk'))
set_option maxRecDepth 20000 in
set_option maxHeartbeats 2000000 in
theorem does_keep : Does Tryz.prog 142 keepSpec := by
  refine does_of_awp good_nil Tryz.func142 rfl (by decide +kernel) (by decide +kernel) ?_
  rintro args h Q ⟨V, chg, mem, clk, clk2, rfl, h1, h2, h3, h4, h5, h6, hk32, hq⟩
  refine ⟨by simp [Tryz.f142], ?_⟩
  rw [awpFunc_some (by rfl)]
  simp -dsimp only [Vm.E, List.lookup, Nat.reduceAdd, Nat.reduceBEq, Int.reduceBNe, Int.reduceBEq, Bool.true_beq, Bool.false_beq, Vm.S, Nat.reduceLeDiff, q142, h1]
  refine range_intro mt126 chg clk h2 ?_
  simp -dsimp only [Vm.E, List.lookup, Nat.reduceAdd, Nat.reduceBEq, Int.reduceBNe, Int.reduceBEq, Bool.true_beq, Bool.false_beq, Vm.S, Nat.reduceLeDiff, q142]
  refine awp_loop (fun m s h' => ∃ (done me : List Ent) (ck : Nat), m = (leftE chg (done.map (·.born))).length ∧ done.length + m ≤ chg.length ∧ Kept mem done me ck ∧ h' = h.set V.im (.map me ck) ∧ (∀ d ∈ done, d ∈ chg) ∧ (done.map (·.born)).Nodup ∧ s = mk [(0, .ptr V.iv 0), (8, .iter V.ic clk ((done).map (·.born)) clk)])
    chg.length _ (le_mk _ ?_) ⟨[], mem, clk2, (congrArg List.length (List.filter_eq_self.2 fun _ _ => rfl)).symm, by simp, ⟨h5.2, h6.2, by simp, fun e he => hk32 e (.inr he), fun k => rfl⟩, (heap_set_same h3).symm, by simp, by simp, rfl⟩ ?_
  · simp only [List.forall_mem_cons, List.not_mem_nil, false_imp_iff, implies_true, and_true]
    try simp -dsimp only [Vm.E, List.lookup, Nat.reduceAdd, Nat.reduceBEq, Int.reduceBNe, Int.reduceBEq, Bool.true_beq, Bool.false_beq, Vm.S, Nat.reduceLeDiff, q142]
    repeat' first | exact Fg.refl _ | exact Fg.nil _ _ _ (by decide) | refine And.intro ?_ ?_
  · rintro m s h' ⟨done, me, ck, rfl, hlen, hK, hh, hd, hdn, rfl⟩
    have g1 : h'[V.iv]? = some (vobj V.ic V.im) := by rw [hh, List.getElem?_set_ne h4.1.symm]; exact h1
    have g2 : h'[V.ic]? = some (.map chg clk) := by rw [hh, List.getElem?_set_ne h4.2.symm]; exact h2
    have g3 : h'[V.im]? = some (.map me ck) := by rw [hh, List.getElem?_set_self (get_lt h3)]
    simp -dsimp only [Vm.E, List.lookup, Nat.reduceAdd, Nat.reduceBEq, Int.reduceBNe, Int.reduceBEq, Bool.true_beq, Bool.false_beq, Vm.S, Nat.reduceLeDiff, q142]
    refine next_intro chg clk g2 (fun e he => h6.1.2 e he) (Nat.le_refl _) (fun hlf => ?_) (fun e he => ?_)
    · have hD : done.Perm chg := seen_all h6.1.1.1 hd hdn hlf
      simp -dsimp only [Vm.E, List.lookup, Nat.reduceAdd, Nat.reduceBEq, Int.reduceBNe, Int.reduceBEq, Bool.true_beq, Bool.false_beq, Vm.S, Nat.reduceLeDiff, q142]
      rw [hh]
      exact hq me ck (hK.perm hD (fun e he => (h5.1 e he).1) h6.1.1.2)
    · obtain ⟨hem, heb⟩ := left_mem he
      obtain ⟨⟨k, hk⟩, x, l, b, hx, hl, hev⟩ := h5.1 e hem
      obtain ⟨hd2, hdn2⟩ := done_more he hd hdn
      have hless := left_less he
      have emap : (done ++ [e]).map (·.born) = done.map (·.born) ++ [e.born] := by simp
      have hkk := kOf_eq hk
      have hke : k.length ≤ 32 := by rw [← hkk]; exact hk32 e (.inl hem)
      have hkd : ∀ e ∈ done, ∃ k, e.key = strK k := fun e he => (h5.1 e (hd e he)).1
      have hnn : ((done ++ [e]).map kOf).Nodup := by
        have hdd : (done ++ [e]).Nodup := by
          exact List.Pairwise.of_map (fun e : Ent => e.born) (fun a b h e => h (by rw [e])) hdn2
        refine List.Pairwise.map kOf (fun a b hab => hab) ?_
        refine hdd.imp_of_mem fun {a b} ha hb hne => ?_
        intro e2
        exact hne (inj_of_map h6.1.1.2 (hd2 a ha) (hd2 b hb) e2)
      simp -dsimp only [Vm.E, List.lookup, Nat.reduceAdd, Nat.reduceBEq, Int.reduceBNe, Int.reduceBEq, Bool.true_beq, Bool.false_beq, Vm.S, Nat.reduceLeDiff, q142]
      refine entry_intro chg clk e g2 (find_born h6.1.1.1 hem) ?_
      simp only [hk, strK, hev]
      cases b
      · have hx0 := hx
        rcases hx with rfl | ⟨rfl, rfl⟩
        · simp -dsimp only [Vm.E, List.lookup, Nat.reduceAdd, Nat.reduceBEq, Int.reduceBNe, Int.reduceBEq, Bool.true_beq, Bool.false_beq, Vm.S, Nat.reduceLeDiff, q142]
          refine draw_cont [3] (.take 0 (.take 1 (.take 2 (.take 4 (.take 5 (.take 6 (.alt 3 (.alt 7 (.done) .stop) .stop))))))) (fun s h2 => h2 = h'.set V.im (.map (mput (strK k) (.sl 1 (l.map encB)) ck me) (mclk (strK k) me ck)) ∧ s 0 = .ptr V.iv 0 ∧ s 8 = .iter V.ic clk (done.map (·.born) ++ [e.born]) clk) (by kernel_rfl) (by kernel_rfl) (by kernel_rfl) (by decide) ?_ ?_
          · simp -dsimp only [Vm.E, List.lookup, Nat.reduceAdd, Nat.reduceBEq, Int.reduceBNe, Int.reduceBEq, Bool.true_beq, Bool.false_beq, Vm.S, Nat.reduceLeDiff, q142, g1]
            refine update_intro mt127 me ck g3 trivial (keys_str fun e he => (hK.wf e he).1) ?_
            simp -dsimp only [Vm.E, List.lookup, Nat.reduceAdd, Nat.reduceBEq, Int.reduceBNe, Int.reduceBEq, Bool.true_beq, Bool.false_beq, Vm.S, Nat.reduceLeDiff, q142]
            repeat' first | rfl | exact True.intro | refine And.intro ?_ ?_
          · rintro s h2 ⟨rfl, e0, e8⟩
            simp -dsimp only [Vm.E, List.lookup, Nat.reduceAdd, Nat.reduceBEq, Int.reduceBNe, Int.reduceBEq, Bool.true_beq, Bool.false_beq, Vm.S, Nat.reduceLeDiff, q142, e0, e8]
            refine kept_intro ⟨_, hless, _, le_mk [(0, .ptr V.iv 0), (8, .iter V.ic clk ((done ++ [e]).map (·.born)) clk)] ?_, done ++ [e], _, _, by rw [emap], by rw [List.length_append]; simp only [List.length_cons, List.length_nil]; omega, hK.put hk (by rw [hev]; exact congrArg some (bytesOf_isB hx0)) hx0 hl hke hkd hnn, by rw [hh, List.set_set], hd2, hdn2, rfl⟩
            simp only [List.forall_mem_cons, List.not_mem_nil, false_imp_iff, implies_true, and_true, emap, e0, e8]
            try simp -dsimp only [Vm.E, List.lookup, Nat.reduceAdd, Nat.reduceBEq, Int.reduceBNe, Int.reduceBEq, Bool.true_beq, Bool.false_beq, Vm.S, Nat.reduceLeDiff, q142, emap, e0, e8]
            repeat' first | exact Fg.refl _ | exact Fg.nil _ _ _ (by decide) | refine And.intro ?_ ?_
        · simp -dsimp only [Vm.E, List.lookup, Nat.reduceAdd, Nat.reduceBEq, Int.reduceBNe, Int.reduceBEq, Bool.true_beq, Bool.false_beq, Vm.S, Nat.reduceLeDiff, q142]
          refine draw_cont [3] (.take 0 (.take 1 (.take 2 (.take 4 (.take 5 (.take 6 (.alt 3 (.alt 7 (.done) .stop) .stop))))))) (fun s h2 => h2 = h'.set V.im (.map (mput (strK k) (.v (.slice none 0 0)) ck me) (mclk (strK k) me ck)) ∧ s 0 = .ptr V.iv 0 ∧ s 8 = .iter V.ic clk (done.map (·.born) ++ [e.born]) clk) (by kernel_rfl) (by kernel_rfl) (by kernel_rfl) (by decide) ?_ ?_
          · simp -dsimp only [Vm.E, List.lookup, Nat.reduceAdd, Nat.reduceBEq, Int.reduceBNe, Int.reduceBEq, Bool.true_beq, Bool.false_beq, Vm.S, Nat.reduceLeDiff, q142, g1]
            refine update_intro mt127 me ck g3 trivial (keys_str fun e he => (hK.wf e he).1) ?_
            simp -dsimp only [Vm.E, List.lookup, Nat.reduceAdd, Nat.reduceBEq, Int.reduceBNe, Int.reduceBEq, Bool.true_beq, Bool.false_beq, Vm.S, Nat.reduceLeDiff, q142]
            repeat' first | rfl | exact True.intro | refine And.intro ?_ ?_
          · rintro s h2 ⟨rfl, e0, e8⟩
            simp -dsimp only [Vm.E, List.lookup, Nat.reduceAdd, Nat.reduceBEq, Int.reduceBNe, Int.reduceBEq, Bool.true_beq, Bool.false_beq, Vm.S, Nat.reduceLeDiff, q142, e0, e8]
            refine kept_intro ⟨_, hless, _, le_mk [(0, .ptr V.iv 0), (8, .iter V.ic clk ((done ++ [e]).map (·.born)) clk)] ?_, done ++ [e], _, _, by rw [emap], by rw [List.length_append]; simp only [List.length_cons, List.length_nil]; omega, hK.put hk (by rw [hev]; exact congrArg some (bytesOf_isB hx0)) hx0 hl hke hkd hnn, by rw [hh, List.set_set], hd2, hdn2, rfl⟩
            simp only [List.forall_mem_cons, List.not_mem_nil, false_imp_iff, implies_true, and_true, emap, e0, e8]
            try simp -dsimp only [Vm.E, List.lookup, Nat.reduceAdd, Nat.reduceBEq, Int.reduceBNe, Int.reduceBEq, Bool.true_beq, Bool.false_beq, Vm.S, Nat.reduceLeDiff, q142, emap, e0, e8]
            repeat' first | exact Fg.refl _ | exact Fg.nil _ _ _ (by decide) | refine And.intro ?_ ?_
      · have hx0 := hx
        have hs : shapeOf e.val = none := by rw [hev]; rfl
        rcases hx with rfl | ⟨rfl, rfl⟩
        · simp -dsimp only [Vm.E, List.lookup, Nat.reduceAdd, Nat.reduceBEq, Int.reduceBNe, Int.reduceBEq, Bool.true_beq, Bool.false_beq, Vm.S, Nat.reduceLeDiff, q142, g1]
          refine delete_intro mt127 me ck g3 trivial (keys_str fun e he => (hK.wf e he).1) ?_
          simp -dsimp only [Vm.E, List.lookup, Nat.reduceAdd, Nat.reduceBEq, Int.reduceBNe, Int.reduceBEq, Bool.true_beq, Bool.false_beq, Vm.S, Nat.reduceLeDiff, q142]
          refine kept_intro ⟨_, hless, _, le_mk [(0, .ptr V.iv 0), (8, .iter V.ic clk ((done ++ [e]).map (·.born)) clk)] ?_, done ++ [e], _, _, by rw [emap], by rw [List.length_append]; simp only [List.length_cons, List.length_nil]; omega, hK.del hk hs hkd hnn, by rw [hh, List.set_set]; rfl, hd2, hdn2, rfl⟩
          simp only [List.forall_mem_cons, List.not_mem_nil, false_imp_iff, implies_true, and_true, emap]
          try simp -dsimp only [Vm.E, List.lookup, Nat.reduceAdd, Nat.reduceBEq, Int.reduceBNe, Int.reduceBEq, Bool.true_beq, Bool.false_beq, Vm.S, Nat.reduceLeDiff, q142, emap]
          repeat' first | exact Fg.refl _ | exact Fg.nil _ _ _ (by decide) | refine And.intro ?_ ?_
        · simp -dsimp only [Vm.E, List.lookup, Nat.reduceAdd, Nat.reduceBEq, Int.reduceBNe, Int.reduceBEq, Bool.true_beq, Bool.false_beq, Vm.S, Nat.reduceLeDiff, q142, g1]
          refine delete_intro mt127 me ck g3 trivial (keys_str fun e he => (hK.wf e he).1) ?_
          simp -dsimp only [Vm.E, List.lookup, Nat.reduceAdd, Nat.reduceBEq, Int.reduceBNe, Int.reduceBEq, Bool.true_beq, Bool.false_beq, Vm.S, Nat.reduceLeDiff, q142]
          refine kept_intro ⟨_, hless, _, le_mk [(0, .ptr V.iv 0), (8, .iter V.ic clk ((done ++ [e]).map (·.born)) clk)] ?_, done ++ [e], _, _, by rw [emap], by rw [List.length_append]; simp only [List.length_cons, List.length_nil]; omega, hK.del hk hs hkd hnn, by rw [hh, List.set_set]; rfl, hd2, hdn2, rfl⟩
          simp only [List.forall_mem_cons, List.not_mem_nil, false_imp_iff, implies_true, and_true, emap]
          try simp -dsimp only [Vm.E, List.lookup, Nat.reduceAdd, Nat.reduceBEq, Int.reduceBNe, Int.reduceBEq, Bool.true_beq, Bool.false_beq, Vm.S, Nat.reduceLeDiff, q142, emap]
          repeat' first | exact Fg.refl _ | exact Fg.nil _ _ _ (by decide) | refine And.intro ?_ ?_
def commitSpec : Vm.Spec := fun args h Q => ∃ (V : VId) (f : Fun), args = [.ptr V.iv 0] ∧ isView h V f ∧ f.n ≤ 536870912 ∧ ∀ h', isView h' V f → memV h' V f → Same h h' [V.ic, V.im] → Q (.v (.int .i64 0)) h'
set_option maxHeartbeats 1000000 in
theorem does_commit : Does Tryz.prog 65 commitSpec := by
  refine does_of_awp (good_cons does_vready (good_cons does_changes (good_cons does_keep good_nil))) Tryz.func65 rfl (by decide +kernel) (by decide +kernel) ?_
  rintro args h Q ⟨V, f, rfl, hV, hfn, hq⟩
  refine ⟨by simp [Tryz.f65], ?_⟩
  rw [awpFunc_some (by rfl)]
  have hV0 := hV
  obtain ⟨chg, clk, mem, clk2, h1, h2, h3, h4, h5, h6, h7, hlen, hk32⟩ := hV
  simp -dsimp only [Vm.E, List.lookup, Nat.reduceAdd, Nat.reduceBEq, Int.reduceBNe, Int.reduceBEq, Bool.true_beq, Bool.false_beq, Vm.S, Nat.reduceLeDiff, q65]
  refine call_one (S := vreadySpec) rfl _ GaL.rfl ⟨V.iv, V.ic, _, rfl, h1, ?_⟩
  simp -dsimp only [Vm.E, List.lookup, Nat.reduceAdd, Nat.reduceBEq, Int.reduceBNe, Int.reduceBEq, Bool.true_beq, Bool.false_beq, Vm.S, Nat.reduceLeDiff, q65]
  refine call_one (S := changesSpec) rfl _ GaL.rfl ⟨V, f, rfl, hV0, hfn, fun p d => ?_⟩
  simp -dsimp only [Vm.E, List.lookup, Nat.reduceAdd, Nat.reduceBEq, Int.reduceBNe, Int.reduceBEq, Bool.true_beq, Bool.false_beq, Vm.S, Nat.reduceLeDiff, q65, h1, bne_self_eq_false]
  refine nil_pointer Tryz.underlying124 ?_
  simp -dsimp only [Vm.E, List.lookup, Nat.reduceAdd, Nat.reduceBEq, Int.reduceBNe, Int.reduceBEq, Bool.true_beq, Bool.false_beq, Vm.S, Nat.reduceLeDiff, q65]
  refine call_one (S := keepSpec) rfl _ GaL.rfl ⟨V, chg, mem, clk, clk2, rfl, h1, h2, h3, ⟨h4.2.1, h4.2.2⟩, h5, h6, hk32, fun me ck hK => ?_⟩
  have g1 : (h.set V.im (.map me ck))[V.iv]? = some (vobj V.ic V.im) := by rw [List.getElem?_set_ne h4.2.1.symm]; exact h1
  have g2 : (h.set V.im (.map me ck))[V.ic]? = some (.map chg clk) := by rw [List.getElem?_set_ne h4.2.2.symm]; exact h2
  have g3 : (h.set V.im (.map me ck))[V.im]? = some (.map me ck) := List.getElem?_set_self (get_lt h3)
  have hsame : Same h (h.set V.im (.map me ck)) [V.ic, V.im] := ⟨by simp, fun i _ hi => List.getElem?_set_ne (by simp at hi; omega)⟩
  generalize h.set V.im (.map me ck) = hh at g1 g2 g3 hsame ⊢
  simp -dsimp only [Vm.E, List.lookup, Nat.reduceAdd, Nat.reduceBEq, Int.reduceBNe, Int.reduceBEq, Bool.true_beq, Bool.false_beq, Vm.S, Nat.reduceLeDiff, q65, g1]
  refine clear_intro mt126 chg clk g2 ?_
  simp -dsimp only [Vm.E, List.lookup, Nat.reduceAdd, Nat.reduceBEq, Int.reduceBNe, Int.reduceBEq, Bool.true_beq, Bool.false_beq, Vm.S, Nat.reduceLeDiff, q65]
  have k1 : (hh.set V.ic (.map [] clk))[V.iv]? = some (vobj V.ic V.im) := by rw [List.getElem?_set_ne h4.1.symm]; exact g1
  have k2 : (hh.set V.ic (.map [] clk))[V.ic]? = some (.map [] clk) := List.getElem?_set_self (get_lt g2)
  have k3 : (hh.set V.ic (.map [] clk))[V.im]? = some (.map me ck) := by rw [List.getElem?_set_ne h4.2.2]; exact g3
  have hn : ∀ k, f k = memOf me k := fun k => by rw [hK.now k]; exact h7 k
  have hl : me.length ≤ f.n := by have := hK.len; omega
  refine hq _ ⟨[], clk, me, ck, k1, k2, k3, h4, ⟨by simp, hK.wf⟩, ⟨⟨⟨.nil, .nil⟩, by simp⟩, hK.born⟩, hn, by simpa using hl, fun e he => ?_⟩ ⟨me, ck, k3, hn, hl⟩ (hsame.trans ⟨by simp, fun i _ hi => List.getElem?_set_ne (by simp at hi; omega)⟩)
  rcases he with he | he
  · simp at he
  · exact hK.short e he
def abortSpec : Vm.Spec := fun args h Q => ∃ (V : VId) (f g : Fun), args = [.ptr V.iv 0] ∧ isView h V f ∧ memV h V g ∧ ∀ h', isView h' V g → memV h' V g → Same h h' [V.ic] → Q (.tup []) h'
theorem does_abort : Does Tryz.prog 67 abortSpec := by
  refine does_of_awp (good_cons does_vready good_nil) Tryz.func67 rfl (by decide +kernel) (by decide +kernel) ?_
  rintro args h Q ⟨V, f, g, rfl, ⟨chg, clk, mem, clk2, h1, h2, h3, h4, h5, h6, h7, hlen, hk32⟩, ⟨mem', ck', hm1, hm2, hm3⟩, hq⟩
  refine ⟨by simp [Tryz.f67], ?_⟩
  rw [awpFunc_some (by rfl)]
  rw [h3] at hm1
  cases hm1
  simp -dsimp only [Vm.E, List.lookup, Nat.reduceAdd, Nat.reduceBEq, Int.reduceBNe, Int.reduceBEq, Bool.true_beq, Bool.false_beq, Vm.S, Nat.reduceLeDiff, q67]
  refine call_one (S := vreadySpec) rfl _ GaL.rfl ⟨V.iv, V.ic, _, rfl, h1, ?_⟩
  simp -dsimp only [Vm.E, List.lookup, Nat.reduceAdd, Nat.reduceBEq, Int.reduceBNe, Int.reduceBEq, Bool.true_beq, Bool.false_beq, Vm.S, Nat.reduceLeDiff, q67, h1]
  refine clear_intro mt126 chg clk h2 ?_
  have k1 : (h.set V.ic (.map [] clk))[V.iv]? = some (vobj V.ic V.im) := by rw [List.getElem?_set_ne h4.1.symm]; exact h1
  have k2 : (h.set V.ic (.map [] clk))[V.ic]? = some (.map [] clk) := List.getElem?_set_self (get_lt h2)
  have k3 : (h.set V.ic (.map [] clk))[V.im]? = some (.map mem clk2) := by rw [List.getElem?_set_ne h4.2.2]; exact h3
  have hsame : Same h (h.set V.ic (.map [] clk)) [V.ic] := Same.set _ _ _
  generalize h.set V.ic (.map [] clk) = hh at k1 k2 k3 hsame ⊢
  simp -dsimp only [Vm.E, List.lookup, Nat.reduceAdd, Nat.reduceBEq, Int.reduceBNe, Int.reduceBEq, Bool.true_beq, Bool.false_beq, q67, k1]
  refine store_ptr _ k1 rfl rfl (by simp) ?_
  simp -dsimp only [Vm.E, List.lookup, Nat.reduceAdd, Nat.reduceBEq, Int.reduceBNe, Int.reduceBEq, Bool.true_beq, Bool.false_beq, Vm.S, Nat.reduceLeDiff, q67]
  rw [heap_set_same k1]
  refine hq hh ⟨[], clk, mem, clk2, k1, k2, k3, h4, ⟨by simp, h5.2⟩, ⟨⟨⟨.nil, .nil⟩, by simp⟩, h6.2⟩, hm2, by simpa using hm3, fun e he => ?_⟩ ⟨mem, clk2, k3, hm2, hm3⟩ hsame
  rcases he with he | he
  · simp at he
  · exact hk32 e (.inr he)
end Go.Proofs.Lx
/- Encumbrances: plain laws and bounds. -/
set_option linter.unusedSimpArgs false
set_option linter.unusedVariables false
namespace Go.Proofs.Lx
open Go.Vm
attribute [local irreducible] awpArr awpBin awpMake awpAppend awpCvX awpStrOf awpBinX awpSlice awpBS awpStore awpAlloc awpCopy awpIndex awpDraw awpIdxX awpFa awpField awpLookup awpUpdate awpDelete awpClear awpRange awpNext awpEntry awpBuild awpClearS awpIdxL awpTree appB awpIdxO eltA treeA
theorem chargeRun_n (c : Chg) : ∀ (l : List Nd) (f : Fun) (w : Bool), (chargeRun c l f w).1.n ≤ f.n + l.length
  | [], f, w => Nat.le_refl _
  | n :: r, f, w => by
    unfold chargeRun
    split
    · exact Nat.le_add_right _ _
    · have := chargeRun_n c r (upd f (ndK (atOf c n).1) (some (ndV (atOf c n).1))) (w || (atOf c n).2.1)
      have e : (upd f (ndK (atOf c n).1) (some (ndV (atOf c n).1))).n = f.n + 1 := rfl
      rw [e] at this
      rw [List.length_cons]; omega
theorem chargeOf_n (f : Fun) (year id : Int) (c : Chg) : (chargeOf f year id c).1.n ≤ f.n + 8 := by
  unfold chargeOf
  split
  · exact Nat.le_add_right _ _
  · split
    · exact Nat.le_add_right _ _
    · have := chargeRun_n c (pathOf f year 8 id) f false
      have := pathOf_length f year 8 id
      omega
/-- Lines' nodes, charged: so much of each line. -/
def chargeG (mk : Dl → Chg) (year : Int) : List Dl → Fun → Bool → Fun × Bool × Int
  | [], f, w => (f, w, 0)
  | x :: r, f, w => if (chargeOf f year x.node (mk x)).2.2 ≠ 0 then ((chargeOf f year x.node (mk x)).1, false, (chargeOf f year x.node (mk x)).2.2)
    else chargeG mk year r (chargeOf f year x.node (mk x)).1 (w || (chargeOf f year x.node (mk x)).2.1)
theorem chargeG_cons (mk : Dl → Chg) (year : Int) (x : Dl) (r : List Dl) (f : Fun) (w : Bool) : chargeG mk year (x :: r) f w = if (chargeOf f year x.node (mk x)).2.2 ≠ 0 then ((chargeOf f year x.node (mk x)).1, false, (chargeOf f year x.node (mk x)).2.2)
    else chargeG mk year r (chargeOf f year x.node (mk x)).1 (w || (chargeOf f year x.node (mk x)).2.1) := rfl
theorem chargeL_G (year : Int) : ∀ (l : List Dl) (f : Fun) (w : Bool), chargeL year l f w = chargeG (fun x => ⟨x.orig, 0, 0⟩) year l f w
  | [], _, _ => rfl
  | x :: r, f, w => by
    rw [chargeL_cons, chargeG_cons, chargeL_G year r]
theorem chargeG_congr {mk mk' : Dl → Chg} (year : Int) : ∀ (l : List Dl) (f : Fun) (w : Bool), (∀ x ∈ l, mk x = mk' x) → chargeG mk year l f w = chargeG mk' year l f w
  | [], _, _, _ => rfl
  | x :: r, f, w, h => by
    rw [chargeG_cons, chargeG_cons, h x (List.mem_cons_self ..), chargeG_congr year r _ _ fun y hy => h y (List.mem_cons_of_mem _ hy)]
theorem chargeG_n (mk : Dl → Chg) (year : Int) : ∀ (l : List Dl) (f : Fun) (w : Bool), (chargeG mk year l f w).1.n ≤ f.n + 8 * l.length
  | [], f, w => Nat.le_refl _
  | x :: r, f, w => by
    have h1 := chargeOf_n f year x.node (mk x)
    rw [chargeG_cons]
    split
    · show (chargeOf f year x.node (mk x)).1.n ≤ _
      rw [List.length_cons]; omega
    · have := chargeG_n mk year r (chargeOf f year x.node (mk x)).1 (w || (chargeOf f year x.node (mk x)).2.1)
      rw [List.length_cons]; omega
theorem putLines_bound (id : Int) : ∀ (l : List Dl) (i : Nat) (f : Fun), (putLines id i l f).n = f.n + l.length
  | [], _, _ => rfl
  | x :: r, i, f => by
    show (putLines id (i + 1) r (upd f (dlK id i) (some (dlV x)))).n = _
    rw [putLines_bound id r (i + 1)]
    show f.n + 1 + r.length = f.n + (r.length + 1)
    omega
theorem docsPut_n (f : Fun) (d : Dc) (l : List Dl) : (docsPut f d l).1.n ≤ f.n + 8 := by
  unfold docsPut
  split
  · exact Nat.le_add_right _ _
  · split
    · exact Nat.le_add_right _ _
    · show (putLines _ 0 l (upd f (seqKey 2) _)).n + 1 ≤ _
      rw [putLines_bound]
      show f.n + 1 + l.length + 1 ≤ _
      omega
theorem preCheck_len {l : List Ln} (h : ¬ preCheck l ≠ 0) : l.length ≤ 6 := by
  unfold preCheck at h
  split at h
  · simp at h
  · rename_i h2; omega
theorem ownL_length (l : List Ln) : (ownL l).length = l.length := by unfold ownL; rw [List.length_map]
theorem preNew_n (f : Fun) (year : Int) (l : List Ln) : (preNew f year l).1.n ≤ f.n + 56 := by
  unfold preNew
  split
  · exact Nat.le_add_right _ _
  · split
    · exact Nat.le_add_right _ _
    · rename_i h1 h2
      have hl := preCheck_len h2
      have hc := chargeG_n (fun x => ⟨x.orig, 0, 0⟩) year (ownL l) f false
      rw [← chargeL_G, ownL_length] at hc
      split
      · show (chargeL year (ownL l) f false).1.n ≤ _
        omega
      · have hp := docsPut_n (chargeL year (ownL l) f false).1 ⟨0, 1, year, 0, 0⟩ (ownL l)
        show (docsPut (chargeL year (ownL l) f false).1 ⟨0, 1, year, 0, 0⟩ (ownL l)).1.n ≤ _
        omega
theorem Dl.zero_ok : Dl.zero.ok := by simp [Dl.ok, Dl.zero, I64]
end Go.Proofs.Lx
/- Charges and pre-encumbrances, the reference's: ref29, ref31. -/
set_option linter.unusedSimpArgs false
set_option linter.unusedVariables false
namespace Go.Proofs.Lx
open Go.Vm
attribute [local irreducible] awpArr awpBin awpMake awpAppend awpCvX awpStrOf awpBinX awpSlice awpBS awpStore awpAlloc awpCopy awpIndex awpDraw awpIdxX awpFa awpField awpLookup awpUpdate awpDelete awpClear awpRange awpNext awpEntry awpBuild awpClearS awpIdxL awpTree appB awpIdxO eltA treeA
theorem does_rSmall : Does Tryz.prog 309 (predSpec smallP) := by
  refine does_of_awp good_nil Tryz.func309 rfl (by decide +kernel) (by decide +kernel) ?_
  rintro args h Q ⟨n, rfl, hq⟩
  refine ⟨by simp [Tryz.f309], ?_⟩
  rw [awpFunc_some (by rfl)]
  unfold smallP at hq
  simp -dsimp only [Vm.E, List.lookup, Nat.reduceAdd, Nat.reduceBEq, Int.reduceBNe, Int.reduceBEq, Bool.true_beq, Bool.false_beq, Vm.S, Nat.reduceLeDiff, q309]
  have h1 := Bool.eq_false_or_eq_true (decide (-1152921504606846976 ≤ n))
  rcases h1 with c1 | c1
  · rw [c1] at hq
    have c2 : decide (n ≥ -1152921504606846976) = true := c1
    simp -dsimp only [Vm.E, List.lookup, Nat.reduceAdd, Nat.reduceBEq, Int.reduceBNe, Int.reduceBEq, Bool.true_beq, Bool.false_beq, Vm.S, Nat.reduceLeDiff, q309, c2]
    exact hq
  · rw [c1] at hq
    have c2 : decide (n ≥ -1152921504606846976) = false := c1
    simp -dsimp only [Vm.E, List.lookup, Nat.reduceAdd, Nat.reduceBEq, Int.reduceBNe, Int.reduceBEq, Bool.true_beq, Bool.false_beq, Vm.S, Nat.reduceLeDiff, q309, c2]
    exact hq
theorem does_rFigure : Does Tryz.prog 263 (predSpec figureP) := by
  refine does_of_awp good_nil Tryz.func263 rfl (by decide +kernel) (by decide +kernel) ?_
  rintro args h Q ⟨n, rfl, hq⟩
  refine ⟨by simp [Tryz.f263], ?_⟩
  rw [awpFunc_some (by rfl)]
  unfold figureP at hq
  simp -dsimp only [Vm.E, List.lookup, Nat.reduceAdd, Nat.reduceBEq, Int.reduceBNe, Int.reduceBEq, Bool.true_beq, Bool.false_beq, Vm.S, Nat.reduceLeDiff, q263]
  have h1 := Bool.eq_false_or_eq_true (decide (0 ≤ n))
  rcases h1 with c1 | c1
  · rw [c1] at hq
    have c2 : decide (n ≥ 0) = true := c1
    simp -dsimp only [Vm.E, List.lookup, Nat.reduceAdd, Nat.reduceBEq, Int.reduceBNe, Int.reduceBEq, Bool.true_beq, Bool.false_beq, Vm.S, Nat.reduceLeDiff, q263, c2]
    exact hq
  · rw [c1] at hq
    have c2 : decide (n ≥ 0) = false := c1
    simp -dsimp only [Vm.E, List.lookup, Nat.reduceAdd, Nat.reduceBEq, Int.reduceBNe, Int.reduceBEq, Bool.true_beq, Bool.false_beq, Vm.S, Nat.reduceLeDiff, q263, c2]
    exact hq
theorem does_rAmt : Does Tryz.prog 153 (predSpec rightA) := by
  refine does_of_awp good_nil Tryz.func153 rfl (by decide +kernel) (by decide +kernel) ?_
  rintro args h Q ⟨n, rfl, hq⟩
  refine ⟨by simp [Tryz.f153], ?_⟩
  rw [awpFunc_some (by rfl)]
  unfold rightA at hq
  simp -dsimp only [Vm.E, List.lookup, Nat.reduceAdd, Nat.reduceBEq, Int.reduceBNe, Int.reduceBEq, Bool.true_beq, Bool.false_beq, Vm.S, Nat.reduceLeDiff, q153]
  have h1 := Bool.eq_false_or_eq_true (decide (1 ≤ n))
  rcases h1 with c1 | c1
  · rw [c1] at hq
    have c2 : decide (n ≥ 1) = true := c1
    simp -dsimp only [Vm.E, List.lookup, Nat.reduceAdd, Nat.reduceBEq, Int.reduceBNe, Int.reduceBEq, Bool.true_beq, Bool.false_beq, Vm.S, Nat.reduceLeDiff, q153, c2]
    exact hq
  · rw [c1] at hq
    have c2 : decide (n ≥ 1) = false := c1
    simp -dsimp only [Vm.E, List.lookup, Nat.reduceAdd, Nat.reduceBEq, Int.reduceBNe, Int.reduceBEq, Bool.true_beq, Bool.false_beq, Vm.S, Nat.reduceLeDiff, q153, c2]
    exact hq
theorem small_rng (n : Int) : smallP n = true ↔ -1152921504606846976 ≤ n ∧ n ≤ 1152921504606846976 := by simp [smallP]
set_option maxHeartbeats 1000000 in
theorem does_rAllows : Does Tryz.prog 264 allowsSpec := by
  refine does_of_awp (good_cons does_rtUsed (good_cons does_rSmall good_nil)) Tryz.func264 rfl (by decide +kernel) (by decide +kernel) ?_
  rintro args h Q ⟨n, more, rfl, hq⟩
  refine ⟨by simp [Tryz.f264], ?_⟩
  rw [awpFunc_some (by rfl)]
  unfold allowsOf at hq
  simp only [ndCells]
  simp -dsimp only [Vm.E, List.lookup, Nat.reduceAdd, Nat.reduceBEq, Int.reduceBNe, Int.reduceBEq, Bool.true_beq, Bool.false_beq, Vm.S, Nat.reduceLeDiff, q264]
  refine call_one (S := usedSpec) rfl _ GaL.rfl ⟨n, rfl, ?_⟩
  simp -dsimp only [Vm.E, List.lookup, Nat.reduceAdd, Nat.reduceBEq, Int.reduceBNe, Int.reduceBEq, Bool.true_beq, Bool.false_beq, Vm.S, Nat.reduceLeDiff, q264]
  have h1 := Bool.eq_false_or_eq_true (decide (more > 1152921504606846976))
  rcases h1 with c1 | c1
  · have d1 := of_decide_eq_true c1
    rw [if_pos (.inl d1)] at hq
    simp -dsimp only [Vm.E, List.lookup, Nat.reduceAdd, Nat.reduceBEq, Int.reduceBNe, Int.reduceBEq, Bool.true_beq, Bool.false_beq, Vm.S, Nat.reduceLeDiff, q264, c1]
    exact hq
  · have d1 := of_decide_eq_false c1
    simp -dsimp only [Vm.E, List.lookup, Nat.reduceAdd, Nat.reduceBEq, Int.reduceBNe, Int.reduceBEq, Bool.true_beq, Bool.false_beq, Vm.S, Nat.reduceLeDiff, q264, c1]
    refine call_one (S := predSpec smallP) rfl _ GaL.rfl ⟨usedOf n, rfl, ?_⟩
    have h2 := Bool.eq_false_or_eq_true (smallP (usedOf n))
    rcases h2 with c2 | c2
    · simp -dsimp only [Vm.E, List.lookup, Nat.reduceAdd, Nat.reduceBEq, Int.reduceBNe, Int.reduceBEq, Bool.true_beq, Bool.false_beq, Vm.S, Nat.reduceLeDiff, q264, c2]
      refine call_one (S := predSpec smallP) rfl _ GaL.rfl ⟨n.limit, rfl, ?_⟩
      have h3 := Bool.eq_false_or_eq_true (smallP n.limit)
      rcases h3 with c3 | c3
      · rw [if_neg (by rw [c2, c3]; simpa using d1)] at hq
        have b2 := (small_rng _).1 c2
        have b3 := (small_rng _).1 c3
        simp -dsimp only [Vm.E, List.lookup, Nat.reduceAdd, Nat.reduceBEq, Int.reduceBNe, Int.reduceBEq, Bool.true_beq, Bool.false_beq, Vm.S, Nat.reduceLeDiff, q264, c3]
        have h4 := Bool.eq_false_or_eq_true (decide (more < 1))
        rcases h4 with c4 | c4
        · rw [if_pos (.inl (of_decide_eq_true c4))] at hq
          simp -dsimp only [Vm.E, List.lookup, Nat.reduceAdd, Nat.reduceBEq, Int.reduceBNe, Int.reduceBEq, Bool.true_beq, Bool.false_beq, Vm.S, Nat.reduceLeDiff, q264, c4]
          exact hq
        · have d4 := of_decide_eq_false c4
          have e : decide (IntKind.i64.wrap (usedOf n + more) ≤ n.limit) = decide (more ≤ w64 (n.limit - usedOf n)) := by
            have w1 : IntKind.i64.wrap (usedOf n + more) = usedOf n + more := wrap_i64 (by omega) (by omega)
            have w2 : w64 (n.limit - usedOf n) = n.limit - usedOf n := wrap_i64 (by omega) (by omega)
            rw [w1, w2]
            by_cases h : more ≤ n.limit - usedOf n
            · rw [decide_eq_true h, decide_eq_true (by omega)]
            · rw [decide_eq_false h, decide_eq_false (by omega)]
          have h5 := Bool.eq_false_or_eq_true (decide (more ≤ w64 (n.limit - usedOf n)))
          rcases h5 with c5 | c5
          · rw [if_pos (.inr (of_decide_eq_true c5))] at hq
            rw [c5] at e
            simp -dsimp only [Vm.E, List.lookup, Nat.reduceAdd, Nat.reduceBEq, Int.reduceBNe, Int.reduceBEq, Bool.true_beq, Bool.false_beq, Vm.S, Nat.reduceLeDiff, q264, c4, e]
            exact hq
          · rw [if_neg (fun h => h.elim d4 (of_decide_eq_false c5))] at hq
            rw [c5] at e
            simp -dsimp only [Vm.E, List.lookup, Nat.reduceAdd, Nat.reduceBEq, Int.reduceBNe, Int.reduceBEq, Bool.true_beq, Bool.false_beq, Vm.S, Nat.reduceLeDiff, q264, c4, e]
            have h6 := Bool.eq_false_or_eq_true n.abs
            rcases h6 with c6 | c6
            · rw [c6] at hq
              simp -dsimp only [Vm.E, List.lookup, Nat.reduceAdd, Nat.reduceBEq, Int.reduceBNe, Int.reduceBEq, Bool.true_beq, Bool.false_beq, Vm.S, Nat.reduceLeDiff, q264, c6]
              exact hq
            · rw [c6] at hq
              simp -dsimp only [Vm.E, List.lookup, Nat.reduceAdd, Nat.reduceBEq, Int.reduceBNe, Int.reduceBEq, Bool.true_beq, Bool.false_beq, Vm.S, Nat.reduceLeDiff, q264, c6]
              exact hq
      · rw [if_pos (.inr (by rw [c3]; simp))] at hq
        simp -dsimp only [Vm.E, List.lookup, Nat.reduceAdd, Nat.reduceBEq, Int.reduceBNe, Int.reduceBEq, Bool.true_beq, Bool.false_beq, Vm.S, Nat.reduceLeDiff, q264, c3]
        exact hq
    · rw [if_pos (.inr (by rw [c2]; simp))] at hq
      simp -dsimp only [Vm.E, List.lookup, Nat.reduceAdd, Nat.reduceBEq, Int.reduceBNe, Int.reduceBEq, Bool.true_beq, Bool.false_beq, Vm.S, Nat.reduceLeDiff, q264, c2]
      exact hq
theorem max3_le (a b c : Int) : decide ((if (if a < b then b else a) < c then c else (if a < b then b else a)) > 9007199254740992) = !(decide (a ≤ 9007199254740992) && (decide (b ≤ 9007199254740992) && decide (c ≤ 9007199254740992))) := by
  by_cases h1 : a ≤ 9007199254740992 <;> by_cases h2 : b ≤ 9007199254740992 <;> by_cases h3 : c ≤ 9007199254740992 <;> simp only [h1, h2, h3, decide_true, decide_false, Bool.and_true, Bool.and_false, Bool.true_and, Bool.false_and, Bool.not_true, Bool.not_false, decide_eq_true_eq, decide_eq_false_iff_not] <;> (repeat' split) <;> omega
theorem min3_ge (a b c : Int) : decide ((if c < (if b < a then b else a) then c else (if b < a then b else a)) < -9007199254740992) = !(decide (-9007199254740992 ≤ a) && (decide (-9007199254740992 ≤ b) && decide (-9007199254740992 ≤ c))) := by
  by_cases h1 : -9007199254740992 ≤ a <;> by_cases h2 : -9007199254740992 ≤ b <;> by_cases h3 : -9007199254740992 ≤ c <;> simp only [h1, h2, h3, decide_true, decide_false, Bool.and_true, Bool.and_false, Bool.true_and, Bool.false_and, Bool.not_true, Bool.not_false, decide_eq_true_eq, decide_eq_false_iff_not] <;> (repeat' split) <;> omega
theorem chgRight_rng (c : Chg) : chgRight c = true ↔ (-9007199254740992 ≤ c.pre ∧ c.pre ≤ 9007199254740992) ∧ (-9007199254740992 ≤ c.enc ∧ c.enc ≤ 9007199254740992) ∧ (-9007199254740992 ≤ c.exp ∧ c.exp ≤ 9007199254740992) := by
  simp [chgRight, withinP, and_assoc]
theorem chargeRun_cons (c : Chg) (n : Nd) (r : List Nd) (f : Fun) (w : Bool) : chargeRun c (n :: r) f w = if (atOf c n).2.2 ≠ 0 then (f, false, (atOf c n).2.2) else chargeRun c r (upd f (ndK (atOf c n).1) (some (ndV (atOf c n).1))) (w || (atOf c n).2.1) := rfl
theorem at_nine {c : Chg} {n : Nd} (h : figs n = false ∨ figs (addC c n) = false) : (atOf c n).2.2 = 9 := by
  unfold atOf
  by_cases h1 : figs n = false
  · rw [if_pos h1]
  · rw [if_neg h1, if_pos (h.resolve_left h1)]
def rChargeSpec : Vm.Spec := fun args h Q => ∃ (R : RId) (f : Fun) (year id : Int) (c : Chg), args = [.ptr R.iv 0, .v (.int .i64 year), .v (.int .i64 id), .v (.int .i64 c.pre), .v (.int .i64 c.enc), .v (.int .i64 c.exp)] ∧ isRef h R f ∧ f.n ≤ 536870900 ∧
  ∀ h', isRef h' R (chargeOf f year id c).1 → Same h h' (rFoot R) → Q (.tup [.v (.bool (chargeOf f year id c).2.1), .v (.int .i64 (chargeOf f year id c).2.2)]) h'
set_option maxRecDepth 20000 in
set_option maxHeartbeats 4000000 in
theorem does_rCharge : Does Tryz.prog 228 rChargeSpec := by
  refine does_of_awp (good_cons does_rtPath (good_cons does_rFigure (good_cons does_rAllows (good_cons does_rtPut good_nil)))) Tryz.func228 rfl (by decide +kernel) (by decide +kernel) ?_
  rintro args h Q ⟨R, f, year, id, c, rfl, hR, hfn, hq⟩
  refine ⟨by simp [Tryz.f228], ?_⟩
  rw [awpFunc_some (by rfl)]
  unfold chargeOf at hq
  simp -dsimp only [Vm.E, List.lookup, Nat.reduceAdd, Nat.reduceBEq, Int.reduceBNe, Int.reduceBEq, Bool.true_beq, Bool.false_beq, Vm.S, Nat.reduceLeDiff, q228]
  refine call_one (S := rtPathSpec) rfl _ GaL.rfl ⟨R, f, year, id, rfl, hR, by omega, ?_⟩
  have hok := pathOf_ok f year 8 id
  have hlen := pathOf_length f year 8 id
  generalize pathOf f year 8 id = path at hok hlen hq ⊢
  simp -dsimp only [Vm.E, List.lookup, Nat.reduceAdd, Nat.reduceBEq, Int.reduceBNe, Int.reduceBEq, Bool.true_beq, Bool.false_beq, Vm.S, Nat.reduceLeDiff, q228]
  have h1 := Bool.eq_false_or_eq_true ((path.length : Int) == 0)
  rcases h1 with c1 | c1
  · have d1 : path.length = 0 := by have : (path.length : Int) = 0 := by simpa using c1
                                    omega
    rw [if_pos d1] at hq
    simp -dsimp only [Vm.E, List.lookup, Nat.reduceAdd, Nat.reduceBEq, Int.reduceBNe, Int.reduceBEq, Bool.true_beq, Bool.false_beq, Vm.S, Nat.reduceLeDiff, q228, c1]
    exact hq h hR (.refl _ _)
  · have d1 : ¬ path.length = 0 := by intro e; rw [e] at c1; simp at c1
    rw [if_neg d1] at hq
    have hmax := max3_le c.pre c.enc c.exp
    have hmin := min3_ge c.pre c.enc c.exp
    have hcr := chgRight_rng c
    simp -dsimp only [Vm.E, List.lookup, Nat.reduceAdd, Nat.reduceBEq, Int.reduceBNe, Int.reduceBEq, Bool.true_beq, Bool.false_beq, Vm.S, Nat.reduceLeDiff, q228, c1]
    have h2 := Bool.eq_false_or_eq_true (decide (c.pre ≤ 9007199254740992) && (decide (c.enc ≤ 9007199254740992) && decide (c.exp ≤ 9007199254740992)))
    rcases h2 with c2 | c2
    · rw [c2] at hmax
      have h3 := Bool.eq_false_or_eq_true (decide (-9007199254740992 ≤ c.pre) && (decide (-9007199254740992 ≤ c.enc) && decide (-9007199254740992 ≤ c.exp)))
      rcases h3 with c3 | c3
      · rw [c3] at hmin
        simp only [Bool.and_eq_true, decide_eq_true_eq] at c2 c3
        rw [if_neg (by rw [hcr.2 ⟨⟨c3.1, c2.1⟩, ⟨c3.2.1, c2.2.1⟩, ⟨c3.2.2, c2.2.2⟩⟩]; decide)] at hq
        clear hcr
        simp -dsimp only [Vm.E, List.lookup, Nat.reduceAdd, Nat.reduceBEq, Int.reduceBNe, Int.reduceBEq, Bool.true_beq, Bool.false_beq, Vm.S, Nat.reduceLeDiff, q228, hmax, hmin]
        refine awp_loop (fun m s h' => ∃ (i : Nat) (g : Fun) (w : Bool), i + m = path.length ∧ isRef h' R g ∧ g.n ≤ f.n + i ∧ Same h h' (rFoot R) ∧ chargeRun c (path.drop i) g w = chargeRun c path f false ∧ s = mk [(0, .ptr R.iv 0), (3, .v (.int .i64 c.pre)), (4, .v (.int .i64 c.enc)), (5, .v (.int .i64 c.exp)), (14, .own true 93 12 (path.map ndAv)), (15, .v (.bool w)), (16, .v (.int .i64 (i : Nat)))])
          path.length _ (le_mk _ ?_) ⟨0, f, false, by omega, hR, by omega, .refl _ _, rfl, rfl⟩ ?_
        · simp only [List.forall_mem_cons, List.not_mem_nil, false_imp_iff, implies_true, and_true]
          try simp -dsimp only [Vm.E, List.lookup, Nat.reduceAdd, Nat.reduceBEq, Int.reduceBNe, Int.reduceBEq, Bool.true_beq, Bool.false_beq, Vm.S, Nat.reduceLeDiff, q228]
          repeat' first | exact Fg.refl _ | exact Fg.nil _ _ _ (by decide) | refine And.intro ?_ ?_
        · clear hR hmax hmin
          rintro m s h' ⟨i, g, w, hi, hR, hgn, hsm, hp, rfl⟩
          simp -dsimp only [Vm.E, List.lookup, Nat.reduceAdd, Nat.reduceBEq, Int.reduceBNe, Int.reduceBEq, Bool.true_beq, Bool.false_beq, Vm.S, Nat.reduceLeDiff, q228]
          refine cond_intro (fun hcc => ?_) (fun hcc => ?_)
          · have hlt : i < path.length := by have := of_decide_eq_true hcc; omega
            have hw : IntKind.i64.wrap ((i : Int) + 1) = ((i + 1 : Nat) : Int) := by rw [wrap_i64 (by omega) (by omega)]; simp
            have hn := hok path[i] (List.getElem_mem hlt)
            have hgi : (path.map ndAv)[i]? = some (ndAv path[i]) := by rw [List.getElem?_map, List.getElem?_eq_getElem hlt]; rfl
            rw [List.drop_eq_getElem_cons hlt] at hp
            generalize path[i] = n at hn hgi hp
            rw [chargeRun_cons] at hp
            simp -dsimp only [Vm.E, List.lookup, Nat.reduceAdd, Nat.reduceBEq, Int.reduceBNe, Int.reduceBEq, Bool.true_beq, Bool.false_beq, Vm.S, Nat.reduceLeDiff, q228]
            refine idxO_intro (xs := path.map ndAv) (by omega) (by simp; omega) ?_
            simp -dsimp only [Vm.E, List.lookup, Nat.reduceAdd, Nat.reduceBEq, Int.reduceBNe, Int.reduceBEq, Bool.true_beq, Bool.false_beq, Vm.S, Nat.reduceLeDiff, q228, Int.toNat_natCast]
            refine eltA_intro (xs := path.map ndAv) hgi ?_
            simp only [ndAv, ndCells]
            simp -dsimp only [Vm.E, List.lookup, Nat.reduceAdd, Nat.reduceBEq, Int.reduceBNe, Int.reduceBEq, Bool.true_beq, Bool.false_beq, Vm.S, Nat.reduceLeDiff, q228, AV.cells, List.drop_zero]
            refine call_one (S := predSpec figureP) rfl _ GaL.rfl ⟨n.pre, rfl, ?_⟩
            have k1 := Bool.eq_false_or_eq_true (figureP n.pre)
            rcases k1 with k1 | k1
            · simp -dsimp only [Vm.E, List.lookup, Nat.reduceAdd, Nat.reduceBEq, Int.reduceBNe, Int.reduceBEq, Bool.true_beq, Bool.false_beq, Vm.S, Nat.reduceLeDiff, q228, k1]
              refine call_one (S := predSpec figureP) rfl _ GaL.rfl ⟨n.enc, rfl, ?_⟩
              have k2 := Bool.eq_false_or_eq_true (figureP n.enc)
              rcases k2 with k2 | k2
              · simp -dsimp only [Vm.E, List.lookup, Nat.reduceAdd, Nat.reduceBEq, Int.reduceBNe, Int.reduceBEq, Bool.true_beq, Bool.false_beq, Vm.S, Nat.reduceLeDiff, q228, k2]
                refine call_one (S := predSpec figureP) rfl _ GaL.rfl ⟨n.exp, rfl, ?_⟩
                have k3 := Bool.eq_false_or_eq_true (figureP n.exp)
                rcases k3 with k3 | k3
                · simp -dsimp only [Vm.E, List.lookup, Nat.reduceAdd, Nat.reduceBEq, Int.reduceBNe, Int.reduceBEq, Bool.true_beq, Bool.false_beq, Vm.S, Nat.reduceLeDiff, q228, k3]
                  refine call_one (S := predSpec figureP) rfl _ GaL.rfl ⟨(addC c n).pre, rfl, ?_⟩
                  have k4 := Bool.eq_false_or_eq_true (figureP (addC c n).pre)
                  rcases k4 with k4 | k4
                  · simp -dsimp only [Vm.E, List.lookup, Nat.reduceAdd, Nat.reduceBEq, Int.reduceBNe, Int.reduceBEq, Bool.true_beq, Bool.false_beq, Vm.S, Nat.reduceLeDiff, q228, k4]
                    refine call_one (S := predSpec figureP) rfl _ GaL.rfl ⟨(addC c n).enc, rfl, ?_⟩
                    have k5 := Bool.eq_false_or_eq_true (figureP (addC c n).enc)
                    rcases k5 with k5 | k5
                    · simp -dsimp only [Vm.E, List.lookup, Nat.reduceAdd, Nat.reduceBEq, Int.reduceBNe, Int.reduceBEq, Bool.true_beq, Bool.false_beq, Vm.S, Nat.reduceLeDiff, q228, k5]
                      refine call_one (S := predSpec figureP) rfl _ GaL.rfl ⟨(addC c n).exp, rfl, ?_⟩
                      have k6 := Bool.eq_false_or_eq_true (figureP (addC c n).exp)
                      rcases k6 with k6 | k6
                      · simp -dsimp only [Vm.E, List.lookup, Nat.reduceAdd, Nat.reduceBEq, Int.reduceBNe, Int.reduceBEq, Bool.true_beq, Bool.false_beq, Vm.S, Nat.reduceLeDiff, q228, k6]
                        have f1 : figs n = true := by simp only [figs, k1, k2, k3, Bool.and_self]
                        have f2 : figs (addC c n) = true := by simp only [figs, k4, k5, k6, Bool.and_self]
                        have hat : atOf c n = if (allowsOf n (chgSum c)).1 = false then (.zero, false, 11) else (addC c n, (allowsOf n (chgSum c)).2, 0) := by
                          unfold atOf
                          rw [if_neg (by rw [f1]; decide), if_neg (by rw [f2]; decide)]
                        rw [hat] at hp
                        clear hat
                        refine call_one (S := allowsSpec) rfl _ GaL.rfl ⟨n, chgSum c, rfl, ?_⟩
                        generalize allowsOf n (chgSum c) = q at hp ⊢
                        rcases q with ⟨qa, qb⟩
                        have h8 := Bool.eq_false_or_eq_true qa
                        rcases h8 with c8 | c8
                        · subst c8
                          have hp : chargeRun c (path.drop (i + 1)) (upd g (ndK (addC c n)) (some (ndV (addC c n)))) (w || qb) = chargeRun c path f false := hp
                          have han := addC_ok c n hn
                          have hnc : ndCells (addC c n) = [.v (.int .i64 n.year), .v (.int .i64 n.id), .v (.int .i64 n.parent), .v (.int .i64 n.fund), .v (.int .i64 n.obj), .v (.bool n.abs), .v (.int .i64 n.limit), .v (.int .i64 (IntKind.i64.wrap (n.pre + c.pre))), .v (.int .i64 (IntKind.i64.wrap (n.enc + c.enc))), .v (.int .i64 (IntKind.i64.wrap (n.exp + c.exp))), .v (.int .i64 n.lapsed), .v (.int .i64 n.carried)] := rfl
                          generalize addC c n = x at han hnc hp
                          simp -dsimp only [Vm.E, List.lookup, Nat.reduceAdd, Nat.reduceBEq, Int.reduceBNe, Int.reduceBEq, Bool.true_beq, Bool.false_beq, Vm.S, Nat.reduceLeDiff, q228]
                          cases w
                          · simp -dsimp only [Vm.E, List.lookup, Nat.reduceAdd, Nat.reduceBEq, Int.reduceBNe, Int.reduceBEq, Bool.true_beq, Bool.false_beq, Vm.S, Nat.reduceLeDiff, q228]
                            refine call_one (S := rtPutSpec) rfl _ GaL.rfl ⟨R, g, x, by rw [hnc], han, hR, by omega, fun h2 g1 g2 => ?_⟩
                            simp -dsimp only [Vm.E, List.lookup, Nat.reduceAdd, Nat.reduceBEq, Int.reduceBNe, Int.reduceBEq, Bool.true_beq, Bool.false_beq, Vm.S, Nat.reduceLeDiff, q228]
                            refine kept_intro ⟨path.length - (i + 1), by omega, _, le_mk [(0, .ptr R.iv 0), (3, .v (.int .i64 c.pre)), (4, .v (.int .i64 c.enc)), (5, .v (.int .i64 c.exp)), (14, .own true 93 12 (path.map ndAv)), (15, .v (.bool qb)), (16, .v (.int .i64 (i + 1 : Nat)))] ?_, i + 1, _, qb, by omega, g1, by show g.n + 1 ≤ _; omega, hsm.trans g2, hp, rfl⟩
                            simp only [List.forall_mem_cons, List.not_mem_nil, false_imp_iff, implies_true, and_true, hw]
                            try simp -dsimp only [Vm.E, List.lookup, Nat.reduceAdd, Nat.reduceBEq, Int.reduceBNe, Int.reduceBEq, Bool.true_beq, Bool.false_beq, Vm.S, Nat.reduceLeDiff, q228, hw]
                            repeat' first | exact Fg.refl _ | exact Fg.nil _ _ _ (by decide) | refine And.intro ?_ ?_
                          · simp -dsimp only [Vm.E, List.lookup, Nat.reduceAdd, Nat.reduceBEq, Int.reduceBNe, Int.reduceBEq, Bool.true_beq, Bool.false_beq, Vm.S, Nat.reduceLeDiff, q228]
                            refine call_one (S := rtPutSpec) rfl _ GaL.rfl ⟨R, g, x, by rw [hnc], han, hR, by omega, fun h2 g1 g2 => ?_⟩
                            simp -dsimp only [Vm.E, List.lookup, Nat.reduceAdd, Nat.reduceBEq, Int.reduceBNe, Int.reduceBEq, Bool.true_beq, Bool.false_beq, Vm.S, Nat.reduceLeDiff, q228]
                            refine kept_intro ⟨path.length - (i + 1), by omega, _, le_mk [(0, .ptr R.iv 0), (3, .v (.int .i64 c.pre)), (4, .v (.int .i64 c.enc)), (5, .v (.int .i64 c.exp)), (14, .own true 93 12 (path.map ndAv)), (15, .v (.bool true)), (16, .v (.int .i64 (i + 1 : Nat)))] ?_, i + 1, _, true, by omega, g1, by show g.n + 1 ≤ _; omega, hsm.trans g2, hp, rfl⟩
                            simp only [List.forall_mem_cons, List.not_mem_nil, false_imp_iff, implies_true, and_true, hw]
                            try simp -dsimp only [Vm.E, List.lookup, Nat.reduceAdd, Nat.reduceBEq, Int.reduceBNe, Int.reduceBEq, Bool.true_beq, Bool.false_beq, Vm.S, Nat.reduceLeDiff, q228, hw]
                            repeat' first | exact Fg.refl _ | exact Fg.nil _ _ _ (by decide) | refine And.intro ?_ ?_
                        · subst c8
                          have hp : (g, false, (11 : Int)) = chargeRun c path f false := hp
                          rw [← hp] at hq
                          simp -dsimp only [Vm.E, List.lookup, Nat.reduceAdd, Nat.reduceBEq, Int.reduceBNe, Int.reduceBEq, Bool.true_beq, Bool.false_beq, Vm.S, Nat.reduceLeDiff, q228]
                          exact hq h' hR hsm
                      · have h9 := at_nine (c := c) (n := n) (.inr (by simp only [figs, k6, Bool.and_false, Bool.false_and]))
                        have hp9 : (g, false, (9 : Int)) = chargeRun c path f false := by rw [← hp, h9]; rfl
                        rw [← hp9] at hq
                        simp -dsimp only [Vm.E, List.lookup, Nat.reduceAdd, Nat.reduceBEq, Int.reduceBNe, Int.reduceBEq, Bool.true_beq, Bool.false_beq, Vm.S, Nat.reduceLeDiff, q228, k6]
                        exact hq h' hR hsm
                    · have h9 := at_nine (c := c) (n := n) (.inr (by simp only [figs, k5, Bool.and_false, Bool.false_and]))
                      have hp9 : (g, false, (9 : Int)) = chargeRun c path f false := by rw [← hp, h9]; rfl
                      rw [← hp9] at hq
                      simp -dsimp only [Vm.E, List.lookup, Nat.reduceAdd, Nat.reduceBEq, Int.reduceBNe, Int.reduceBEq, Bool.true_beq, Bool.false_beq, Vm.S, Nat.reduceLeDiff, q228, k5]
                      exact hq h' hR hsm
                  · have h9 := at_nine (c := c) (n := n) (.inr (by simp only [figs, k4, Bool.and_false, Bool.false_and]))
                    have hp9 : (g, false, (9 : Int)) = chargeRun c path f false := by rw [← hp, h9]; rfl
                    rw [← hp9] at hq
                    simp -dsimp only [Vm.E, List.lookup, Nat.reduceAdd, Nat.reduceBEq, Int.reduceBNe, Int.reduceBEq, Bool.true_beq, Bool.false_beq, Vm.S, Nat.reduceLeDiff, q228, k4]
                    exact hq h' hR hsm
                · have h9 := at_nine (c := c) (n := n) (.inl (by simp only [figs, k3, Bool.and_false, Bool.false_and]))
                  have hp9 : (g, false, (9 : Int)) = chargeRun c path f false := by rw [← hp, h9]; rfl
                  rw [← hp9] at hq
                  simp -dsimp only [Vm.E, List.lookup, Nat.reduceAdd, Nat.reduceBEq, Int.reduceBNe, Int.reduceBEq, Bool.true_beq, Bool.false_beq, Vm.S, Nat.reduceLeDiff, q228, k3]
                  exact hq h' hR hsm
              · have h9 := at_nine (c := c) (n := n) (.inl (by simp only [figs, k2, Bool.and_false, Bool.false_and]))
                have hp9 : (g, false, (9 : Int)) = chargeRun c path f false := by rw [← hp, h9]; rfl
                rw [← hp9] at hq
                simp -dsimp only [Vm.E, List.lookup, Nat.reduceAdd, Nat.reduceBEq, Int.reduceBNe, Int.reduceBEq, Bool.true_beq, Bool.false_beq, Vm.S, Nat.reduceLeDiff, q228, k2]
                exact hq h' hR hsm
            · have h9 := at_nine (c := c) (n := n) (.inl (by simp only [figs, k1, Bool.and_false, Bool.false_and]))
              have hp9 : (g, false, (9 : Int)) = chargeRun c path f false := by rw [← hp, h9]; rfl
              rw [← hp9] at hq
              simp -dsimp only [Vm.E, List.lookup, Nat.reduceAdd, Nat.reduceBEq, Int.reduceBNe, Int.reduceBEq, Bool.true_beq, Bool.false_beq, Vm.S, Nat.reduceLeDiff, q228, k1]
              exact hq h' hR hsm
          · have hge : ¬ i < path.length := by have := of_decide_eq_false hcc; omega
            rw [List.drop_of_length_le (by omega)] at hp
            have hp : (g, w, (0 : Int)) = chargeRun c path f false := hp
            rw [← hp] at hq
            simp -dsimp only [Vm.E, List.lookup, Nat.reduceAdd, Nat.reduceBEq, Int.reduceBNe, Int.reduceBEq, Bool.true_beq, Bool.false_beq, Vm.S, Nat.reduceLeDiff, q228]
            exact hq h' hR hsm
      · rw [c3] at hmin
        rw [if_pos (by
          cases hb : chgRight c
          · rfl
          · have := hcr.1 hb
            simp only [decide_eq_true this.1.1, decide_eq_true this.2.1.1, decide_eq_true this.2.2.1] at c3
            cases c3)] at hq
        simp -dsimp only [Vm.E, List.lookup, Nat.reduceAdd, Nat.reduceBEq, Int.reduceBNe, Int.reduceBEq, Bool.true_beq, Bool.false_beq, Vm.S, Nat.reduceLeDiff, q228, hmax, hmin]
        exact hq h hR (.refl _ _)
    · rw [c2] at hmax
      rw [if_pos (by
        cases hb : chgRight c
        · rfl
        · have := hcr.1 hb
          simp only [decide_eq_true this.1.2, decide_eq_true this.2.1.2, decide_eq_true this.2.2.2] at c2
          cases c2)] at hq
      simp -dsimp only [Vm.E, List.lookup, Nat.reduceAdd, Nat.reduceBEq, Int.reduceBNe, Int.reduceBEq, Bool.true_beq, Bool.false_beq, Vm.S, Nat.reduceLeDiff, q228, hmax]
      exact hq h hR (.refl _ _)
set_option maxHeartbeats 1000000 in
theorem does_rPreCheck : Does Tryz.prog 73 preCheckSpec := by
  refine does_of_awp (good_cons does_rAmt good_nil) Tryz.func73 rfl (by decide +kernel) (by decide +kernel) ?_
  rintro args h Q ⟨l, hl, rfl, hq⟩
  refine ⟨by simp [Tryz.f73], ?_⟩
  rw [awpFunc_some (by rfl)]
  unfold preCheck at hq
  simp -dsimp only [Vm.E, List.lookup, Nat.reduceAdd, Nat.reduceBEq, Int.reduceBNe, Int.reduceBEq, Bool.true_beq, Bool.false_beq, Vm.S, Nat.reduceLeDiff, q73]
  have h1 := Bool.eq_false_or_eq_true (decide ((l.length : Int) < 1))
  rcases h1 with c1 | c1
  · have d1 := of_decide_eq_true c1
    rw [if_pos (.inl (by omega))] at hq
    simp -dsimp only [Vm.E, List.lookup, Nat.reduceAdd, Nat.reduceBEq, Int.reduceBNe, Int.reduceBEq, Bool.true_beq, Bool.false_beq, Vm.S, Nat.reduceLeDiff, q73, c1]
    exact hq
  · have d1 := of_decide_eq_false c1
    simp -dsimp only [Vm.E, List.lookup, Nat.reduceAdd, Nat.reduceBEq, Int.reduceBNe, Int.reduceBEq, Bool.true_beq, Bool.false_beq, Vm.S, Nat.reduceLeDiff, q73, c1]
    have h2 := Bool.eq_false_or_eq_true (decide ((l.length : Int) > 6))
    rcases h2 with c2 | c2
    · have d2 := of_decide_eq_true c2
      rw [if_pos (.inr (.inl (by omega)))] at hq
      simp -dsimp only [Vm.E, List.lookup, Nat.reduceAdd, Nat.reduceBEq, Int.reduceBNe, Int.reduceBEq, Bool.true_beq, Bool.false_beq, Vm.S, Nat.reduceLeDiff, q73, c2]
      exact hq
    · have d2 := of_decide_eq_false c2
      simp -dsimp only [Vm.E, List.lookup, Nat.reduceAdd, Nat.reduceBEq, Int.reduceBNe, Int.reduceBEq, Bool.true_beq, Bool.false_beq, Vm.S, Nat.reduceLeDiff, q73, c2]
      refine awp_loop (fun m s h' => ∃ i : Nat, i + m = l.length ∧ h' = h ∧ (∀ j (hj : j < l.length), j < i → wrongL l[j] = false) ∧ s = mk [(0, .sl 4 (l.map lnAv)), (3, .v (.int .i64 (i : Nat)))])
        l.length _ (le_mk _ ?_) ⟨0, by omega, rfl, fun _ _ hj => by omega, rfl⟩ ?_
      · simp only [List.forall_mem_cons, List.not_mem_nil, false_imp_iff, implies_true, and_true]
        try simp -dsimp only [Vm.E, List.lookup, Nat.reduceAdd, Nat.reduceBEq, Int.reduceBNe, Int.reduceBEq, Bool.true_beq, Bool.false_beq, Vm.S, Nat.reduceLeDiff, q73]
        repeat' first | exact Fg.refl _ | exact Fg.nil _ _ _ (by decide) | refine And.intro ?_ ?_
      · rintro m s h' ⟨i, hi, rfl, hb, rfl⟩
        simp -dsimp only [Vm.E, List.lookup, Nat.reduceAdd, Nat.reduceBEq, Int.reduceBNe, Int.reduceBEq, Bool.true_beq, Bool.false_beq, Vm.S, Nat.reduceLeDiff, q73]
        refine cond_intro (fun hcc => ?_) (fun hcc => ?_)
        · have hlt : i < l.length := by have := of_decide_eq_true hcc; omega
          have hw : IntKind.i64.wrap ((i : Int) + 1) = ((i + 1 : Nat) : Int) := by rw [wrap_i64 (by omega) (by omega)]; simp
          have hxe : ∃ x, l[i] = x := ⟨_, rfl⟩
          rcases hxe with ⟨x, hx⟩
          simp -dsimp only [Vm.E, List.lookup, Nat.reduceAdd, Nat.reduceBEq, Int.reduceBNe, Int.reduceBEq, Bool.true_beq, Bool.false_beq, Vm.S, Nat.reduceLeDiff, q73]
          refine idx_map lnAv l i hlt ?_
          simp only [hx, lnAv, lnCells]
          simp -dsimp only [Vm.E, List.lookup, Nat.reduceAdd, Nat.reduceBEq, Int.reduceBNe, Int.reduceBEq, Bool.true_beq, Bool.false_beq, Vm.S, Nat.reduceLeDiff, q73, AV.cells]
          refine call_one (S := predSpec rightA) rfl _ GaL.rfl ⟨x.amt, rfl, ?_⟩
          have h3 := Bool.eq_false_or_eq_true (rightA x.amt)
          rcases h3 with c3 | c3
          · have hwx : wrongL x = false := by unfold wrongL; rw [c3]; rfl
            simp -dsimp only [Vm.E, List.lookup, Nat.reduceAdd, Nat.reduceBEq, Int.reduceBNe, Int.reduceBEq, Bool.true_beq, Bool.false_beq, Vm.S, Nat.reduceLeDiff, q73, c3]
            refine kept_intro ⟨l.length - (i + 1), by omega, _, le_mk [(0, .sl 4 (l.map lnAv)), (3, .v (.int .i64 (i + 1 : Nat)))] ?_, i + 1, by omega, rfl, fun j hj hj2 => ?_, rfl⟩
            · simp only [List.forall_mem_cons, List.not_mem_nil, false_imp_iff, implies_true, and_true, hw]
              try simp -dsimp only [Vm.E, List.lookup, Nat.reduceAdd, Nat.reduceBEq, Int.reduceBNe, Int.reduceBEq, Bool.true_beq, Bool.false_beq, Vm.S, Nat.reduceLeDiff, q73, hw]
              repeat' first | exact Fg.refl _ | exact Fg.nil _ _ _ (by decide) | refine And.intro ?_ ?_
            · by_cases hji : j = i
              · subst hji; rw [hx]; exact hwx
              · exact hb j hj (by omega)
          · have hwx : wrongL x = true := by unfold wrongL; rw [c3]; rfl
            rw [if_pos (.inr (.inr (List.any_eq_true.2 ⟨x, hx ▸ List.getElem_mem hlt, hwx⟩)))] at hq
            simp -dsimp only [Vm.E, List.lookup, Nat.reduceAdd, Nat.reduceBEq, Int.reduceBNe, Int.reduceBEq, Bool.true_beq, Bool.false_beq, Vm.S, Nat.reduceLeDiff, q73, c3]
            exact hq
        · have hge : ¬ i < l.length := by have := of_decide_eq_false hcc; omega
          have hany : l.any wrongL = false := by
            cases ha : l.any wrongL
            · rfl
            · obtain ⟨x, hxm, hwx⟩ := List.any_eq_true.1 ha
              obtain ⟨j, hj, rfl⟩ := List.getElem_of_mem hxm
              rw [hb j hj (by omega)] at hwx; cases hwx
          rw [if_neg (fun h => h.elim (fun h => by omega) fun h => h.elim (fun h => by omega) fun h => by rw [hany] at h; cases h)] at hq
          simp -dsimp only [Vm.E, List.lookup, Nat.reduceAdd, Nat.reduceBEq, Int.reduceBNe, Int.reduceBEq, Bool.true_beq, Bool.false_beq, Vm.S, Nat.reduceLeDiff, q73]
          exact hq
def firstOf (f : Fun) (year : Int) (l : List Ln) : Int := if checkY f year ≠ 0 then checkY f year else preCheck l
def rFirstSpec : Vm.Spec := fun args h Q => ∃ (R : RId) (f : Fun) (year : Int) (l : List Ln), l.length ≤ 9223372036854775807 ∧ args = [.ptr R.iv 0, .v (.int .i64 year), .sl 4 (l.map lnAv)] ∧ isRef h R f ∧ f.n ≤ 536870912 ∧ Q (.v (.int .i64 (firstOf f year l))) h
theorem does_rFirst : Does Tryz.prog 148 rFirstSpec := by
  refine does_of_awp (good_cons does_rCheck (good_cons does_rPreCheck good_nil)) Tryz.func148 rfl (by decide +kernel) (by decide +kernel) ?_
  rintro args h Q ⟨R, f, year, l, hl, rfl, hR, hfn, hq⟩
  refine ⟨by simp [Tryz.f148], ?_⟩
  rw [awpFunc_some (by rfl)]
  unfold firstOf at hq
  simp -dsimp only [Vm.E, List.lookup, Nat.reduceAdd, Nat.reduceBEq, Int.reduceBNe, Int.reduceBEq, Bool.true_beq, Bool.false_beq, Vm.S, Nat.reduceLeDiff, q148]
  refine call_one (S := rCheckSpec) rfl _ GaL.rfl ⟨R, f, year, rfl, hR, hfn, ?_⟩
  generalize checkY f year = e at hq ⊢
  simp -dsimp only [Vm.E, List.lookup, Nat.reduceAdd, Nat.reduceBEq, Int.reduceBNe, Int.reduceBEq, Bool.true_beq, Bool.false_beq, Vm.S, Nat.reduceLeDiff, q148]
  have h1 := Bool.eq_false_or_eq_true (e != 0)
  rcases h1 with c1 | c1
  · rw [if_pos (by simpa using c1)] at hq
    simp -dsimp only [Vm.E, List.lookup, Nat.reduceAdd, Nat.reduceBEq, Int.reduceBNe, Int.reduceBEq, Bool.true_beq, Bool.false_beq, Vm.S, Nat.reduceLeDiff, q148, c1]
    exact hq
  · rw [if_neg (by simpa using c1)] at hq
    simp -dsimp only [Vm.E, List.lookup, Nat.reduceAdd, Nat.reduceBEq, Int.reduceBNe, Int.reduceBEq, Bool.true_beq, Bool.false_beq, Vm.S, Nat.reduceLeDiff, q148, c1]
    refine call_one (S := preCheckSpec) rfl _ GaL.rfl ⟨l, hl, rfl, ?_⟩
    simp -dsimp only [Vm.E, List.lookup, Nat.reduceAdd, Nat.reduceBEq, Int.reduceBNe, Int.reduceBEq, Bool.true_beq, Bool.false_beq, Vm.S, Nat.reduceLeDiff, q148]
    exact hq
theorem does_rLines : Does Tryz.prog 149 linesSpec := by
  refine does_of_awp good_nil Tryz.func149 rfl (by decide +kernel) (by decide +kernel) ?_
  rintro args h Q ⟨l, hl, rfl, hq⟩
  refine ⟨by simp [Tryz.f149], ?_⟩
  rw [awpFunc_some (by rfl)]
  simp -dsimp only [Vm.E, List.lookup, Nat.reduceAdd, Nat.reduceBEq, Int.reduceBNe, Int.reduceBEq, Bool.true_beq, Bool.false_beq, Vm.S, Nat.reduceLeDiff, q149]
  refine awp_loop (fun m s h' => ∃ i : Nat, i + m = l.length ∧ h' = h ∧ s = mk [(0, .sl 4 (l.map lnAv)), (3, .own true 62 4 ((ownL (l.take i)).map dlAv)), (4, .v (.int .i64 (i : Nat)))])
    l.length _ (le_mk _ ?_) ⟨0, by omega, rfl, rfl⟩ ?_
  · simp only [List.forall_mem_cons, List.not_mem_nil, false_imp_iff, implies_true, and_true]
    try simp -dsimp only [Vm.E, List.lookup, Nat.reduceAdd, Nat.reduceBEq, Int.reduceBNe, Int.reduceBEq, Bool.true_beq, Bool.false_beq, Vm.S, Nat.reduceLeDiff, q149]
    repeat' first | exact Fg.refl _ | exact Fg.nil _ _ _ (by decide) | refine And.intro ?_ ?_
  · rintro m s h' ⟨i, hi, rfl, rfl⟩
    simp -dsimp only [Vm.E, List.lookup, Nat.reduceAdd, Nat.reduceBEq, Int.reduceBNe, Int.reduceBEq, Bool.true_beq, Bool.false_beq, Vm.S, Nat.reduceLeDiff, q149]
    refine cond_intro (fun hcc => ?_) (fun hcc => ?_)
    · have hlt : i < l.length := by have := of_decide_eq_true hcc; omega
      have hw : IntKind.i64.wrap ((i : Int) + 1) = ((i + 1 : Nat) : Int) := by rw [wrap_i64 (by omega) (by omega)]; simp
      have est : ownL (l.take (i + 1)) = ownL (l.take i) ++ [⟨l[i].node, l[i].amt, 0, 0⟩] := by
        unfold ownL
        rw [List.take_succ_eq_append_getElem hlt, List.map_append]; rfl
      have hol : (ownL (l.take i)).length ≤ i := by unfold ownL; rw [List.length_map, List.length_take]; omega
      have hxe : ∃ x, l[i] = x := ⟨_, rfl⟩
      rcases hxe with ⟨x, hx⟩
      rw [hx] at est
      simp -dsimp only [Vm.E, List.lookup, Nat.reduceAdd, Nat.reduceBEq, Int.reduceBNe, Int.reduceBEq, Bool.true_beq, Bool.false_beq, Vm.S, Nat.reduceLeDiff, q149]
      refine draw_cont [] (.take 0 (.take 1 (.take 2 (.take 3 (.take 4 (.take 5 (.take 6 (.take 7 (.take 8 (.take 9 (.take 10 (.alt 11 (.alt 12 (.alt 13 (.alt 14 (.done) .stop) .stop) .stop) .stop)))))))))))) (fun s h2 => h2 = h' ∧ s 0 = .sl 4 (l.map lnAv) ∧ s 3 = .own true 62 4 ((ownL (l.take (i + 1))).map dlAv) ∧ s 4 = .v (.int .i64 (i : Nat))) (by kernel_rfl) (by kernel_rfl) (by kernel_rfl) (by decide) ?_ ?_
      · simp -dsimp only [Vm.E, List.lookup, Nat.reduceAdd, Nat.reduceBEq, Int.reduceBNe, Int.reduceBEq, Bool.true_beq, Bool.false_beq, Vm.S, Nat.reduceLeDiff, q149]
        refine idx_map lnAv l i hlt ?_
        simp only [hx, lnAv, lnCells]
        simp -dsimp only [Vm.E, List.lookup, Nat.reduceAdd, Nat.reduceBEq, Int.reduceBNe, Int.reduceBEq, Bool.true_beq, Bool.false_beq, Vm.S, Nat.reduceLeDiff, q149, AV.cells]
        refine idx_map lnAv l i hlt ?_
        simp only [hx, lnAv, lnCells]
        simp -dsimp only [Vm.E, List.lookup, Nat.reduceAdd, Nat.reduceBEq, Int.reduceBNe, Int.reduceBEq, Bool.true_beq, Bool.false_beq, Vm.S, Nat.reduceLeDiff, q149, AV.cells]
        refine bs_intro zr62 (by decide) (by decide) rfl rfl (by simp [solid, AV.cells]) ?_
        simp -dsimp only [Vm.E, List.lookup, Nat.reduceAdd, Nat.reduceBEq, Int.reduceBNe, Int.reduceBEq, Bool.true_beq, Bool.false_beq, Vm.S, Nat.reduceLeDiff, q149]
        refine app_sl Tryz.underlying55 (by simp [AV.cells]) (by simp only [List.length_map, List.length_cons, List.length_nil]; omega) ?_
        simp -dsimp only [Vm.E, List.lookup, Nat.reduceAdd, Nat.reduceBEq, Int.reduceBNe, Int.reduceBEq, Bool.true_beq, Bool.false_beq, Vm.S, Nat.reduceLeDiff, q149]
        simp only [est, List.map_append, List.map_cons, List.map_nil, dlAv, dlCells]
        repeat' first | rfl | exact True.intro | refine And.intro ?_ ?_
      · rintro s h2 ⟨rfl, e0, e3, e4⟩
        simp -dsimp only [Vm.E, List.lookup, Nat.reduceAdd, Nat.reduceBEq, Int.reduceBNe, Int.reduceBEq, Bool.true_beq, Bool.false_beq, Vm.S, Nat.reduceLeDiff, q149, e0, e3, e4]
        refine kept_intro ⟨l.length - (i + 1), by omega, _, le_mk [(0, .sl 4 (l.map lnAv)), (3, .own true 62 4 ((ownL (l.take (i + 1))).map dlAv)), (4, .v (.int .i64 (i + 1 : Nat)))] ?_, i + 1, by omega, rfl, rfl⟩
        simp only [List.forall_mem_cons, List.not_mem_nil, false_imp_iff, implies_true, and_true, hw, e0, e3, e4]
        try simp -dsimp only [Vm.E, List.lookup, Nat.reduceAdd, Nat.reduceBEq, Int.reduceBNe, Int.reduceBEq, Bool.true_beq, Bool.false_beq, Vm.S, Nat.reduceLeDiff, q149, hw, e0, e3, e4]
        repeat' first | exact Fg.refl _ | exact Fg.nil _ _ _ (by decide) | refine And.intro ?_ ?_
    · have hge : ¬ i < l.length := by have := of_decide_eq_false hcc; omega
      simp -dsimp only [Vm.E, List.lookup, Nat.reduceAdd, Nat.reduceBEq, Int.reduceBNe, Int.reduceBEq, Bool.true_beq, Bool.false_beq, Vm.S, Nat.reduceLeDiff, q149]
      rw [List.take_of_length_le (by omega)]
      exact hq
/-- So many times the original. -/
def mkR (p e x : Int) (d : Dl) : Chg := ⟨w64 (p * d.orig), w64 (e * d.orig), w64 (x * d.orig)⟩
def rChargeLSpec : Vm.Spec := fun args h Q => ∃ (R : RId) (f : Fun) (year : Int) (l : List Dl) (p e x : Int), l.length ≤ 1048576 ∧ args = [.ptr R.iv 0, .v (.int .i64 year), .sl 4 (l.map dlAv), .v (.int .i64 p), .v (.int .i64 e), .v (.int .i64 x)] ∧ isRef h R f ∧ f.n ≤ 268435456 ∧
  ∀ h', isRef h' R (chargeG (mkR p e x) year l f false).1 → Same h h' (rFoot R) → Q (.tup [.v (.bool (chargeG (mkR p e x) year l f false).2.1), .v (.int .i64 (chargeG (mkR p e x) year l f false).2.2)]) h'
attribute [local irreducible] chargeOf chargeG docsPut
set_option maxHeartbeats 1000000 in
theorem does_rChargeL : Does Tryz.prog 150 rChargeLSpec := by
  refine does_of_awp (good_cons does_rCharge good_nil) Tryz.func150 rfl (by decide +kernel) (by decide +kernel) ?_
  rintro args h Q ⟨R, f, year, l, p, e, x, hl, rfl, hR, hfn, hq⟩
  refine ⟨by simp [Tryz.f150], ?_⟩
  rw [awpFunc_some (by rfl)]
  simp -dsimp only [Vm.E, List.lookup, Nat.reduceAdd, Nat.reduceBEq, Int.reduceBNe, Int.reduceBEq, Bool.true_beq, Bool.false_beq, Vm.S, Nat.reduceLeDiff, q150]
  refine awp_loop (fun m s h' => ∃ (i : Nat) (g : Fun) (w : Bool), i + m = l.length ∧ isRef h' R g ∧ g.n ≤ f.n + 8 * i ∧ Same h h' (rFoot R) ∧ chargeG (mkR p e x) year (l.drop i) g w = chargeG (mkR p e x) year l f false ∧ s = mk [(0, .ptr R.iv 0), (1, .v (.int .i64 year)), (2, .sl 4 (l.map dlAv)), (3, .v (.int .i64 p)), (4, .v (.int .i64 e)), (5, .v (.int .i64 x)), (14, .v (.bool w)), (15, .v (.int .i64 (i : Nat)))])
    l.length _ (le_mk _ ?_) ⟨0, f, false, by omega, hR, by omega, .refl _ _, rfl, rfl⟩ ?_
  · simp only [List.forall_mem_cons, List.not_mem_nil, false_imp_iff, implies_true, and_true]
    try simp -dsimp only [Vm.E, List.lookup, Nat.reduceAdd, Nat.reduceBEq, Int.reduceBNe, Int.reduceBEq, Bool.true_beq, Bool.false_beq, Vm.S, Nat.reduceLeDiff, q150]
    repeat' first | exact Fg.refl _ | exact Fg.nil _ _ _ (by decide) | refine And.intro ?_ ?_
  · clear hR
    rintro m s h' ⟨i, g, w, hi, hR, hgn, hsm, hp, rfl⟩
    simp -dsimp only [Vm.E, List.lookup, Nat.reduceAdd, Nat.reduceBEq, Int.reduceBNe, Int.reduceBEq, Bool.true_beq, Bool.false_beq, Vm.S, Nat.reduceLeDiff, q150]
    refine cond_intro (fun hcc => ?_) (fun hcc => ?_)
    · have hlt : i < l.length := by have := of_decide_eq_true hcc; omega
      have hw : IntKind.i64.wrap ((i : Int) + 1) = ((i + 1 : Nat) : Int) := by rw [wrap_i64 (by omega) (by omega)]; simp
      rw [List.drop_eq_getElem_cons hlt] at hp
      have hxe : ∃ y, l[i] = y := ⟨_, rfl⟩
      rcases hxe with ⟨y, hy⟩
      rw [hy] at hp
      have hcn := chargeOf_n g year y.node (mkR p e x y)
      simp -dsimp only [Vm.E, List.lookup, Nat.reduceAdd, Nat.reduceBEq, Int.reduceBNe, Int.reduceBEq, Bool.true_beq, Bool.false_beq, Vm.S, Nat.reduceLeDiff, q150]
      refine idx_map dlAv l i hlt ?_
      simp only [hy, dlAv, dlCells]
      simp -dsimp only [Vm.E, List.lookup, Nat.reduceAdd, Nat.reduceBEq, Int.reduceBNe, Int.reduceBEq, Bool.true_beq, Bool.false_beq, Vm.S, Nat.reduceLeDiff, q150, AV.cells]
      refine idx_map dlAv l i hlt ?_
      simp only [hy, dlAv, dlCells]
      simp -dsimp only [Vm.E, List.lookup, Nat.reduceAdd, Nat.reduceBEq, Int.reduceBNe, Int.reduceBEq, Bool.true_beq, Bool.false_beq, Vm.S, Nat.reduceLeDiff, q150, AV.cells]
      refine call_one (S := rChargeSpec) rfl _ GaL.rfl ⟨R, g, year, y.node, mkR p e x y, rfl, hR, by omega, fun h2 g1 g2 => ?_⟩
      rw [chargeG_cons] at hp
      generalize chargeOf g year y.node (mkR p e x y) = q at hp g1 hcn ⊢
      rcases q with ⟨qf, qw, qe⟩
      simp only at hp g1 hcn ⊢
      simp -dsimp only [Vm.E, List.lookup, Nat.reduceAdd, Nat.reduceBEq, Int.reduceBNe, Int.reduceBEq, Bool.true_beq, Bool.false_beq, Vm.S, Nat.reduceLeDiff, q150]
      have h1 := Bool.eq_false_or_eq_true (qe != 0)
      rcases h1 with c1 | c1
      · have d1 : qe ≠ 0 := by simpa using c1
        rw [if_pos d1] at hp
        rw [← hp] at hq
        simp -dsimp only [Vm.E, List.lookup, Nat.reduceAdd, Nat.reduceBEq, Int.reduceBNe, Int.reduceBEq, Bool.true_beq, Bool.false_beq, Vm.S, Nat.reduceLeDiff, q150, c1]
        exact hq h2 g1 (hsm.trans g2)
      · have d1 : ¬ qe ≠ 0 := by simpa using c1
        rw [if_neg d1] at hp
        simp -dsimp only [Vm.E, List.lookup, Nat.reduceAdd, Nat.reduceBEq, Int.reduceBNe, Int.reduceBEq, Bool.true_beq, Bool.false_beq, Vm.S, Nat.reduceLeDiff, q150, c1]
        cases w
        · simp -dsimp only [Vm.E, List.lookup, Nat.reduceAdd, Nat.reduceBEq, Int.reduceBNe, Int.reduceBEq, Bool.true_beq, Bool.false_beq, Vm.S, Nat.reduceLeDiff, q150]
          refine kept_intro ⟨l.length - (i + 1), by omega, _, le_mk [(0, .ptr R.iv 0), (1, .v (.int .i64 year)), (2, .sl 4 (l.map dlAv)), (3, .v (.int .i64 p)), (4, .v (.int .i64 e)), (5, .v (.int .i64 x)), (14, .v (.bool qw)), (15, .v (.int .i64 (i + 1 : Nat)))] ?_, i + 1, qf, qw, by omega, g1, by omega, hsm.trans g2, by simpa using hp, rfl⟩
          simp only [List.forall_mem_cons, List.not_mem_nil, false_imp_iff, implies_true, and_true, hw]
          try simp -dsimp only [Vm.E, List.lookup, Nat.reduceAdd, Nat.reduceBEq, Int.reduceBNe, Int.reduceBEq, Bool.true_beq, Bool.false_beq, Vm.S, Nat.reduceLeDiff, q150, hw]
          repeat' first | exact Fg.refl _ | exact Fg.nil _ _ _ (by decide) | refine And.intro ?_ ?_
        · simp -dsimp only [Vm.E, List.lookup, Nat.reduceAdd, Nat.reduceBEq, Int.reduceBNe, Int.reduceBEq, Bool.true_beq, Bool.false_beq, Vm.S, Nat.reduceLeDiff, q150]
          refine kept_intro ⟨l.length - (i + 1), by omega, _, le_mk [(0, .ptr R.iv 0), (1, .v (.int .i64 year)), (2, .sl 4 (l.map dlAv)), (3, .v (.int .i64 p)), (4, .v (.int .i64 e)), (5, .v (.int .i64 x)), (14, .v (.bool true)), (15, .v (.int .i64 (i + 1 : Nat)))] ?_, i + 1, qf, true, by omega, g1, by omega, hsm.trans g2, by simpa using hp, rfl⟩
          simp only [List.forall_mem_cons, List.not_mem_nil, false_imp_iff, implies_true, and_true, hw]
          try simp -dsimp only [Vm.E, List.lookup, Nat.reduceAdd, Nat.reduceBEq, Int.reduceBNe, Int.reduceBEq, Bool.true_beq, Bool.false_beq, Vm.S, Nat.reduceLeDiff, q150, hw]
          repeat' first | exact Fg.refl _ | exact Fg.nil _ _ _ (by decide) | refine And.intro ?_ ?_
    · have hge : ¬ i < l.length := by have := of_decide_eq_false hcc; omega
      rw [List.drop_of_length_le (by omega)] at hp
      have hp : (g, w, (0 : Int)) = chargeG (mkR p e x) year l f false := by rw [← hp]; simp only [chargeG]
      rw [← hp] at hq
      simp -dsimp only [Vm.E, List.lookup, Nat.reduceAdd, Nat.reduceBEq, Int.reduceBNe, Int.reduceBEq, Bool.true_beq, Bool.false_beq, Vm.S, Nat.reduceLeDiff, q150]
      exact hq h' hR hsm
theorem w64_i64 {n : Int} (h : I64 n) : w64 n = n := wrap_i64 h.1 h.2
theorem mkR_pre {d : Dl} (h : d.ok) : mkR 1 0 0 d = ⟨d.orig, 0, 0⟩ := by
  unfold mkR
  rw [Int.one_mul, Int.zero_mul, w64_i64 h.2.1]
  rfl
def rPreNewSpec : Vm.Spec := fun args h Q => ∃ (R : RId) (f : Fun) (year : Int) (l : List Ln), I64 year ∧ l.length ≤ 1073741824 ∧ (∀ x ∈ l, x.ok) ∧ args = [.ptr R.iv 0, .v (.int .i64 year), .sl 4 (l.map lnAv)] ∧ isRef h R f ∧ f.n ≤ 134217728 ∧
  ∀ h', isRef h' R (preNew f year l).1 → Same h h' (rFoot R) → Q (.tup [.v (.int .i64 (preNew f year l).2.1), .v (.bool (preNew f year l).2.2.1), .v (.int .i64 (preNew f year l).2.2.2)]) h'
theorem docsPut_no {f : Fun} {d : Dc} {l : List Dl} (h : (docsPut f d l).2.2 ≠ 0) : (docsPut f d l).2.1 = 0 := by
  revert h
  unfold docsPut
  split
  · intro _; rfl
  · split
    · intro _; rfl
    · intro h; exact absurd rfl h
set_option maxHeartbeats 1000000 in
theorem does_rPreNew : Does Tryz.prog 71 rPreNewSpec := by
  refine does_of_awp (good_cons does_rFirst (good_cons does_rLines (good_cons does_rChargeL (good_cons does_rDocsPut good_nil)))) Tryz.func71 rfl (by decide +kernel) (by decide +kernel) ?_
  rintro args h Q ⟨R, f, year, l, hy, hl, hok, rfl, hR, hfn, hq⟩
  refine ⟨by simp [Tryz.f71], ?_⟩
  rw [awpFunc_some (by rfl)]
  unfold preNew at hq
  simp -dsimp only [Vm.E, List.lookup, Nat.reduceAdd, Nat.reduceBEq, Int.reduceBNe, Int.reduceBEq, Bool.true_beq, Bool.false_beq, Vm.S, Nat.reduceLeDiff, q71]
  refine call_one (S := rFirstSpec) rfl _ GaL.rfl ⟨R, f, year, l, by omega, rfl, hR, by omega, ?_⟩
  have hfo : firstOf f year l = if checkY f year ≠ 0 then checkY f year else preCheck l := rfl
  generalize firstOf f year l = e at hfo ⊢
  simp -dsimp only [Vm.E, List.lookup, Nat.reduceAdd, Nat.reduceBEq, Int.reduceBNe, Int.reduceBEq, Bool.true_beq, Bool.false_beq, Vm.S, Nat.reduceLeDiff, q71]
  by_cases d1 : checkY f year ≠ 0
  · simp only [if_pos d1] at hq hfo
    have c1 : (e != 0) = true := by rw [hfo]; simpa using d1
    rw [← hfo] at hq
    simp -dsimp only [Vm.E, List.lookup, Nat.reduceAdd, Nat.reduceBEq, Int.reduceBNe, Int.reduceBEq, Bool.true_beq, Bool.false_beq, Vm.S, Nat.reduceLeDiff, q71, c1]
    exact hq h hR (.refl _ _)
  · simp only [if_neg d1] at hq hfo
    by_cases d2 : preCheck l ≠ 0
    · simp only [if_pos d2] at hq
      have c1 : (e != 0) = true := by rw [hfo]; simpa using d2
      rw [← hfo] at hq
      simp -dsimp only [Vm.E, List.lookup, Nat.reduceAdd, Nat.reduceBEq, Int.reduceBNe, Int.reduceBEq, Bool.true_beq, Bool.false_beq, Vm.S, Nat.reduceLeDiff, q71, c1]
      exact hq h hR (.refl _ _)
    · simp only [if_neg d2] at hq
      have c1 : (e != 0) = false := by rw [hfo]; simpa using d2
      have hl6 := preCheck_len d2
      have hol := ownL_length l
      have hook := ownL_ok hok
      have hG : chargeL year (ownL l) f false = chargeG (mkR 1 0 0) year (ownL l) f false := by
        rw [chargeL_G]
        exact chargeG_congr year _ _ _ fun x hx => (mkR_pre (hook x hx)).symm
      rw [hG] at hq
      have hcn := chargeG_n (mkR 1 0 0) year (ownL l) f false
      clear hG
      simp -dsimp only [Vm.E, List.lookup, Nat.reduceAdd, Nat.reduceBEq, Int.reduceBNe, Int.reduceBEq, Bool.true_beq, Bool.false_beq, Vm.S, Nat.reduceLeDiff, q71, c1]
      refine call_one (S := linesSpec) rfl _ GaL.rfl ⟨l, hl, rfl, ?_⟩
      simp -dsimp only [Vm.E, List.lookup, Nat.reduceAdd, Nat.reduceBEq, Int.reduceBNe, Int.reduceBEq, Bool.true_beq, Bool.false_beq, Vm.S, Nat.reduceLeDiff, q71]
      refine call_one (S := rChargeLSpec) rfl _ GaL.rfl ⟨R, f, year, ownL l, 1, 0, 0, by omega, rfl, hR, by omega, fun h1 g1 g2 => ?_⟩
      generalize chargeG (mkR 1 0 0) year (ownL l) f false = q at hq g1 hcn ⊢
      rcases q with ⟨qf, qw, qe⟩
      simp only at hq g1 hcn ⊢
      simp -dsimp only [Vm.E, List.lookup, Nat.reduceAdd, Nat.reduceBEq, Int.reduceBNe, Int.reduceBEq, Bool.true_beq, Bool.false_beq, Vm.S, Nat.reduceLeDiff, q71]
      have h3 := Bool.eq_false_or_eq_true (qe != 0)
      rcases h3 with c3 | c3
      · have d3 : qe ≠ 0 := by simpa using c3
        simp only [if_pos d3] at hq
        simp -dsimp only [Vm.E, List.lookup, Nat.reduceAdd, Nat.reduceBEq, Int.reduceBNe, Int.reduceBEq, Bool.true_beq, Bool.false_beq, Vm.S, Nat.reduceLeDiff, q71, c3]
        exact hq h1 g1 g2
      · have d3 : ¬ qe ≠ 0 := by simpa using c3
        simp only [if_neg d3] at hq
        have z0 : I64 0 := by unfold I64; omega
        have z1 : I64 1 := by unfold I64; omega
        simp -dsimp only [Vm.E, List.lookup, Nat.reduceAdd, Nat.reduceBEq, Int.reduceBNe, Int.reduceBEq, Bool.true_beq, Bool.false_beq, Vm.S, Nat.reduceLeDiff, q71, c3]
        refine call_one (S := rDocsPutSpec) rfl _ GaL.rfl ⟨R, qf, ⟨0, 1, year, 0, 0⟩, ownL l, ⟨z0, z1, hy, z0, z0⟩, hook, rfl, g1, by omega, fun h2 g3 g4 => ?_⟩
        have hno := docsPut_no (f := qf) (d := ⟨0, 1, year, 0, 0⟩) (l := ownL l)
        generalize docsPut qf ⟨0, 1, year, 0, 0⟩ (ownL l) = r at hq g3 hno ⊢
        rcases r with ⟨rf, ri, re⟩
        simp only at hq g3 hno ⊢
        have hq' := hq h2 g3 (g2.trans g4)
        simp -dsimp only [Vm.E, List.lookup, Nat.reduceAdd, Nat.reduceBEq, Int.reduceBNe, Int.reduceBEq, Bool.true_beq, Bool.false_beq, Vm.S, Nat.reduceLeDiff, q71]
        have h4 := Bool.eq_false_or_eq_true (re != 0)
        rcases h4 with c4 | c4
        · have d4 : re ≠ 0 := by simpa using c4
          have e4 : (re == 0) = false := by simpa using d4
          rw [hno d4, e4, Bool.and_false] at hq'
          simp -dsimp only [Vm.E, List.lookup, Nat.reduceAdd, Nat.reduceBEq, Int.reduceBNe, Int.reduceBEq, Bool.true_beq, Bool.false_beq, Vm.S, Nat.reduceLeDiff, q71, c4]
          exact hq'
        · have d4 : re = 0 := by simpa using c4
          subst d4
          rw [beq_self_eq_true, Bool.and_true] at hq'
          simp -dsimp only [Vm.E, List.lookup, Nat.reduceAdd, Nat.reduceBEq, Int.reduceBNe, Int.reduceBEq, Bool.true_beq, Bool.false_beq, Vm.S, Nat.reduceLeDiff, q71, c4]
          exact hq'
end Go.Proofs.Lx
/- Two views beside, committed and forgotten: the law PreNew. -/
set_option linter.unusedSimpArgs false
set_option linter.unusedVariables false
namespace Go.Proofs.Lx
open Go.Vm
attribute [local irreducible] awpArr awpBin awpMake awpAppend awpCvX awpStrOf awpBinX awpSlice awpBS awpStore awpAlloc awpCopy awpIndex awpDraw awpIdxX awpFa awpField awpLookup awpUpdate awpDelete awpClear awpRange awpNext awpEntry awpBuild awpClearS awpIdxL awpTree appB awpIdxO eltA treeA
def rComId (R : RId) (h : Heap) : RId := ⟨R.iv, h.length, R.inn, h.length + 1⟩
def rAbId (R : RId) (h : Heap) : RId := ⟨R.iv, R.iw, h.length, h.length + 1⟩
theorem set_two {h : Heap} {i : Nat} (hi : i < h.length) (x y z a : AObj) : ((h ++ [x]).set i y ++ [a]).set i z = h.set i z ++ [x, a] := by
  rw [List.set_append_left _ _ hi, List.append_assoc, List.set_append_left _ _ (by rw [List.length_set]; exact hi), List.set_set]
  rfl
theorem get_two {h : Heap} {i j : Nat} {x a z o : AObj} (hj : h[j]? = some o) (hne : j ≠ i) : (h.set i z ++ [x, a])[j]? = some o := by
  have hl : j < (h.set i z).length := by rw [List.length_set]; exact get_lt hj
  rw [List.getElem?_append_left hl, List.getElem?_set_ne (Ne.symm hne)]; exact hj
theorem get_two0 (h : Heap) (i : Nat) (z x a : AObj) : (h.set i z ++ [x, a])[h.length]? = some x := by
  rw [List.getElem?_append_right (by simp)]; simp
theorem get_two1 (h : Heap) (i : Nat) (z x a : AObj) : (h.set i z ++ [x, a])[h.length + 1]? = some a := by
  rw [List.getElem?_append_right (by simp)]; simp
theorem get_twoI {h : Heap} {i : Nat} (hi : i < h.length) (z x a : AObj) : (h.set i z ++ [x, a])[i]? = some z := by
  rw [List.getElem?_append_left (by rw [List.length_set]; exact hi), List.getElem?_set_self hi]
theorem same_two {h : Heap} {i : Nat} (z x a : AObj) : Same h (h.set i z ++ [x, a]) [i] :=
  ⟨by simp, fun j hj hm => by rw [List.getElem?_append_left (by rw [List.length_set]; exact hj), List.getElem?_set_ne (by simp at hm; omega)]⟩
set_option maxHeartbeats 1000000 in
theorem does_rCom0 : Does Tryz.prog 154 (fun args h Q => ∃ (R : RId) (ln : List KV), args = [.ptr R.iv 0] ∧ h[R.iv]? = some (.cells [.ptr R.iw 0, .ptr R.inn 0, .ptr R.it 0]) ∧ h[R.inn]? = some (tabObj ln) ∧
    Q (.tup []) (h.set R.iv (.cells [.ptr h.length 0, .ptr R.inn 0, .ptr (h.length + 1) 0]) ++ [tabObj ln, .cells [.v (.slice none 0 0)]])) := by
  refine does_of_awp good_nil Tryz.func154 rfl (by decide +kernel) (by decide +kernel) ?_
  rintro args h Q ⟨R, ln, rfl, h1, h2, hq⟩
  refine ⟨by simp [Tryz.f154], ?_⟩
  rw [awpFunc_some (by rfl)]
  have hlt := get_lt h1
  have k1 : ∀ r, (h ++ r)[R.iv]? = some (.cells [.ptr R.iw 0, .ptr R.inn 0, .ptr R.it 0]) := fun r => heap_get r h1
  unfold tabObj at h2 hq
  simp -dsimp only [Vm.E, List.lookup, Nat.reduceAdd, Nat.reduceBEq, Int.reduceBNe, Int.reduceBEq, Bool.true_beq, Bool.false_beq, Vm.S, Nat.reduceLeDiff, q154, h1, h2, k1]
  have k2 : ((h ++ [AObj.cells [.sl 2 (ln.map kvAv)]]).set R.iv (.cells [AV.ptr h.length 0, .ptr R.inn 0, .ptr R.it 0]))[R.iv]? = some (.cells [AV.ptr h.length 0, .ptr R.inn 0, .ptr R.it 0]) := List.getElem?_set_self (by simp; omega)
  have k3 : ∀ r, (((h ++ [AObj.cells [.sl 2 (ln.map kvAv)]]).set R.iv (.cells [AV.ptr h.length 0, .ptr R.inn 0, .ptr R.it 0])) ++ r)[R.iv]? = some (.cells [AV.ptr h.length 0, .ptr R.inn 0, .ptr R.it 0]) := fun r => heap_get r k2
  have k4 : ((h ++ [AObj.cells [.sl 2 (ln.map kvAv)]]).set R.iv (.cells [AV.ptr h.length 0, .ptr R.inn 0, .ptr R.it 0])).length = h.length + 1 := by simp
  have e1 : putCells [AV.ptr R.iw 0, .ptr R.inn 0, .ptr R.it 0] 0 [.ptr h.length 0] = [AV.ptr h.length 0, .ptr R.inn 0, .ptr R.it 0] := rfl
  try simp only [e1]
  simp -dsimp only [Vm.E, List.lookup, Nat.reduceAdd, Nat.reduceBEq, Int.reduceBNe, Int.reduceBEq, Bool.true_beq, Bool.false_beq, Vm.S, Nat.reduceLeDiff, q154, k2, k3, k4]
  have e2 : putCells [AV.ptr h.length 0, .ptr R.inn 0, .ptr R.it 0] 2 [.ptr (h.length + 1) 0] = [.ptr h.length 0, .ptr R.inn 0, .ptr (h.length + 1) 0] := rfl
  try simp only [e2]
  rw [set_two hlt]
  exact hq
set_option maxHeartbeats 1000000 in
theorem does_rAb0 : Does Tryz.prog 155 (fun args h Q => ∃ (R : RId) (ln : List KV), args = [.ptr R.iv 0] ∧ h[R.iv]? = some (.cells [.ptr R.iw 0, .ptr R.inn 0, .ptr R.it 0]) ∧ h[R.iw]? = some (tabObj ln) ∧
    Q (.tup []) (h.set R.iv (.cells [.ptr R.iw 0, .ptr h.length 0, .ptr (h.length + 1) 0]) ++ [tabObj ln, .cells [.v (.slice none 0 0)]])) := by
  refine does_of_awp good_nil Tryz.func155 rfl (by decide +kernel) (by decide +kernel) ?_
  rintro args h Q ⟨R, ln, rfl, h1, h2, hq⟩
  refine ⟨by simp [Tryz.f155], ?_⟩
  rw [awpFunc_some (by rfl)]
  have hlt := get_lt h1
  have k1 : ∀ r, (h ++ r)[R.iv]? = some (.cells [.ptr R.iw 0, .ptr R.inn 0, .ptr R.it 0]) := fun r => heap_get r h1
  unfold tabObj at h2 hq
  simp -dsimp only [Vm.E, List.lookup, Nat.reduceAdd, Nat.reduceBEq, Int.reduceBNe, Int.reduceBEq, Bool.true_beq, Bool.false_beq, Vm.S, Nat.reduceLeDiff, q155, h1, h2, k1]
  have k2 : ((h ++ [AObj.cells [.sl 2 (ln.map kvAv)]]).set R.iv (.cells [AV.ptr R.iw 0, .ptr h.length 0, .ptr R.it 0]))[R.iv]? = some (.cells [AV.ptr R.iw 0, .ptr h.length 0, .ptr R.it 0]) := List.getElem?_set_self (by simp; omega)
  have k3 : ∀ r, (((h ++ [AObj.cells [.sl 2 (ln.map kvAv)]]).set R.iv (.cells [AV.ptr R.iw 0, .ptr h.length 0, .ptr R.it 0])) ++ r)[R.iv]? = some (.cells [AV.ptr R.iw 0, .ptr h.length 0, .ptr R.it 0]) := fun r => heap_get r k2
  have k4 : ((h ++ [AObj.cells [.sl 2 (ln.map kvAv)]]).set R.iv (.cells [AV.ptr R.iw 0, .ptr h.length 0, .ptr R.it 0])).length = h.length + 1 := by simp
  have e1 : putCells [AV.ptr R.iw 0, .ptr R.inn 0, .ptr R.it 0] 1 [.ptr h.length 0] = [AV.ptr R.iw 0, .ptr h.length 0, .ptr R.it 0] := rfl
  try simp only [e1]
  simp -dsimp only [Vm.E, List.lookup, Nat.reduceAdd, Nat.reduceBEq, Int.reduceBNe, Int.reduceBEq, Bool.true_beq, Bool.false_beq, Vm.S, Nat.reduceLeDiff, q155, k2, k3, k4]
  have e2 : putCells [AV.ptr R.iw 0, .ptr h.length 0, .ptr R.it 0] 2 [.ptr (h.length + 1) 0] = [.ptr R.iw 0, .ptr h.length 0, .ptr (h.length + 1) 0] := rfl
  try simp only [e2]
  rw [set_two hlt]
  exact hq
theorem gaH_two {h : Heap} {i : Nat} (z x : AObj) : GaH (h.set i z ++ [x, .cells [.v (.slice none 0 0)]]) (h.set i z ++ [x, tabObj []]) :=
  GaH.append rfl fun i o' ho' => by
    match i, ho' with
    | 0, ho' => exact ⟨o', ho', .inl rfl⟩
    | 1, ho' => exact ⟨_, rfl, .inr ⟨_, _, rfl, (Option.some.inj ho').symm, .cons (.nil 2) .nil⟩⟩
    | i + 2, ho' => simp at ho'
def rComSpec : Vm.Spec := fun args h Q => ∃ (R : RId) (f : Fun), args = [.ptr R.iv 0] ∧ isRef h R f ∧ ∀ h', isRef h' (rComId R h) f → wasR h' (rComId R h) f → Same h h' [R.iv] → Q (.tup []) h'
theorem does_rCom : Does Tryz.prog 154 rComSpec := by
  refine (does_weakH does_rCom0).imp ?_
  rintro args h Q ⟨R, f, rfl, ⟨lw, ln, lt, h1, h2, h3, h4, ⟨n1, n2, n3, n4, n5⟩, h6, ⟨h7, h8⟩, h9⟩, hq⟩
  refine ⟨h, .refl h, R, ln, rfl, h1, h3, _, gaH_two _ _, ?_⟩
  have hi := get_lt h1
  have hn := get_lt h3
  refine hq _ ⟨ln, ln, [], get_twoI hi _ _ _, get_two0 _ _ _ _ _, get_two h3 n1.symm, get_two1 _ _ _ _ _, ⟨?_, ?_, ?_, ?_, ?_⟩, h6, ⟨h7, by simp⟩, h9⟩ ⟨ln, get_two0 _ _ _ _ _, h6, h7, h9⟩ (same_two _ _ _) <;> (simp only [rComId]; omega)
def rAbSpec : Vm.Spec := fun args h Q => ∃ (R : RId) (f g : Fun), args = [.ptr R.iv 0] ∧ isRef h R f ∧ wasR h R g ∧ ∀ h', isRef h' (rAbId R h) g → wasR h' (rAbId R h) g → Same h h' [R.iv] → Q (.tup []) h'
theorem does_rAb : Does Tryz.prog 155 rAbSpec := by
  refine (does_weakH does_rAb0).imp ?_
  rintro args h Q ⟨R, f, g, rfl, ⟨lw, ln, lt, h1, h2, h3, h4, ⟨n1, n2, n3, n4, n5⟩, h6, ⟨h7, h8⟩, h9⟩, ⟨lw2, w1, w2, w3, w4⟩, hq⟩
  rw [h2] at w1
  have hlw : lw = lw2 := by
    have := Option.some.inj w1
    unfold tabObj at this
    injection this with e
    injection e with e
    injection e with e1 e2
    exact List.map_inj_right (fun a b hab => by
      unfold kvAv at hab
      injection hab with h
      injection h with h1 h2
      injection h2 with h2 h3
      injection h1 with _ h1
      injection h2 with _ h2
      have i1 : a.1 = b.1 := by have := congrArg (List.map unB) h1; simpa [Function.comp_def, unB_encB] using this
      have i2 : a.2 = b.2 := by have := congrArg (List.map unB) h2; simpa [Function.comp_def, unB_encB] using this
      exact Prod.ext i1 i2) |>.1 e2
  subst hlw
  have nw : R.iw ≠ R.iv := fun e => by
    rw [e, h1] at h2
    have := Option.some.inj h2
    unfold tabObj at this
    injection this with e
    have := congrArg List.length e
    simp at this
  refine ⟨h, .refl h, R, lw, rfl, h1, h2, _, gaH_two _ _, ?_⟩
  have hi := get_lt h1
  have hn := get_lt h2
  refine hq _ ⟨lw, lw, [], get_twoI hi _ _ _, get_two h2 nw, get_two0 _ _ _ _ _, get_two1 _ _ _ _ _, ⟨?_, ?_, ?_, ?_, ?_⟩, w2, ⟨w3, by simp⟩, w4⟩ ⟨lw, get_two h2 nw, w2, w3, w4⟩ (same_two _ _ _) <;> (simp only [rAbId]; omega)
def samesSpec : Vm.Spec := fun args h Q => ∃ (V : VId) (R : RId) (f : Fun), args = [.ptr V.iv 0, .ptr R.iv 0] ∧ Both h V R f ∧ f.n ≤ 536870912 ∧ ∀ h', Both h' V R f → Same h h' [] → Q (.v (.bool true)) h'
theorem does_sames : Does Tryz.prog 54 samesSpec := by
  refine does_of_awp (good_cons does_scan (good_cons does_rScan (good_cons does_pairs good_nil))) Tryz.func54 rfl (by decide +kernel) (by decide +kernel) ?_
  rintro args h Q ⟨V, R, f, rfl, hB, hn, hq⟩
  refine ⟨by simp [Tryz.f54], ?_⟩
  rw [awpFunc_some (by rfl)]
  simp -dsimp only [Vm.E, List.lookup, Nat.reduceAdd, Nat.reduceBEq, Int.reduceBNe, Int.reduceBEq, Bool.true_beq, Bool.false_beq, Vm.S, Nat.reduceLeDiff, q54]
  refine call_one (S := scanSpec) rfl _ (.cons (.refl _) (.cons (.nil 1) .nil)) ⟨V, f, [], rfl, by simp, hB.1, hn, fun l h1 hsc hln hV1 hs1 => ?_⟩
  have hB1 := hB.quiet hV1 hs1
  simp -dsimp only [Vm.E, List.lookup, Nat.reduceAdd, Nat.reduceBEq, Int.reduceBNe, Int.reduceBEq, Bool.true_beq, Bool.false_beq, Vm.S, Nat.reduceLeDiff, q54]
  refine call_one (S := rScanSpec) rfl _ (.cons (.refl _) (.cons (.nil 1) .nil)) ⟨R, f, [], rfl, by simp, hB1.2.1, hn, fun l' hsc' hln' => ?_⟩
  obtain rfl := hsc.same hsc'
  simp -dsimp only [Vm.E, List.lookup, Nat.reduceAdd, Nat.reduceBEq, Int.reduceBNe, Int.reduceBEq, Bool.true_beq, Bool.false_beq, Vm.S, Nat.reduceLeDiff, q54]
  refine call_one (S := pairsSpec) rfl _ GaL.rfl ⟨l, l, by omega, rfl, ?_⟩
  simp -dsimp only [Vm.E, List.lookup, Nat.reduceAdd, Nat.reduceBEq, Int.reduceBNe, Int.reduceBEq, Bool.true_beq, Bool.false_beq, Vm.S, Nat.reduceLeDiff, q54, decide_true]
  exact hq _ hB1 hs1
theorem both_turn {h h1 h2 : Heap} {V : VId} {R R' : RId} {f k : Fun} (hB : Both h V R f) (hV : isView h1 V k) (hs : Same h h1 [V.ic, V.im]) (hR : isRef h2 R' k) (hs2 : Same h1 h2 [R.iv]) (hm : memV h1 V k) (hw : wasR h2 R' k)
    (hid : R' = rComId R h1 ∨ R' = rAbId R h1) : BothW h2 V R' k k := by
  obtain ⟨hB1, hB2, hB3⟩ := hB
  have hd : ∀ i ∈ [V.iv, V.ic, V.im], i ∉ [R.iv] := fun i hi hm => hB3 i hi (by simp at hm ⊢; exact .inl hm)
  have hlt : ∀ i ∈ [V.iv, V.ic, V.im], i < h1.length := fun i hi => by
    obtain ⟨chg, clk, mem, clk2, h1, h2, h3, h4⟩ := hV
    simp only [List.mem_cons, List.not_mem_nil, or_false] at hi
    rcases hi with rfl | rfl | rfl
    · exact get_lt h1
    · exact get_lt h2
    · exact get_lt h3
  refine ⟨⟨hV.same hs2 hd, hR, fun i hi hmem => ?_⟩, hm.same hs2 (hd _ (by simp)), hw⟩
  have h3 := hB3 i hi
  have h4 := hlt i hi
  simp only [List.mem_cons, List.not_mem_nil, or_false, not_or] at h3 hmem
  rcases hid with rfl | rfl
  · simp only [rComId] at hmem
    omega
  · simp only [rAbId] at hmem
    omega
def turnF (e : Int) (f g : Fun) : Fun := if e = 0 then f else g
def endSpec : Vm.Spec := fun args h Q => ∃ (V : VId) (R : RId) (f g : Fun) (e : Int), args = [.ptr V.iv 0, .ptr R.iv 0, .v (.int .i64 e)] ∧ BothW h V R f g ∧ f.n ≤ 536870912 ∧ g.n ≤ 536870912 ∧
  ∀ (R' : RId) h', R'.iv = R.iv → BothW h' V R' (turnF e f g) (turnF e f g) → Q (.v (.bool true)) h'
set_option maxHeartbeats 1000000 in
theorem does_end31 : Does Tryz.prog 74 endSpec := by
  refine does_of_awp (good_cons does_commit (good_cons does_rCom (good_cons does_abort (good_cons does_rAb (good_cons does_sames good_nil))))) Tryz.func74 rfl (by decide +kernel) (by decide +kernel) ?_
  rintro args h Q ⟨V, R, f, g, e, rfl, hB, hfn, hgn, hq⟩
  refine ⟨by simp [Tryz.f74], ?_⟩
  rw [awpFunc_some (by rfl)]
  unfold turnF at hq
  simp -dsimp only [Vm.E, List.lookup, Nat.reduceAdd, Nat.reduceBEq, Int.reduceBNe, Int.reduceBEq, Bool.true_beq, Bool.false_beq, Vm.S, Nat.reduceLeDiff, q74]
  have h0 := Bool.eq_false_or_eq_true (e == 0)
  rcases h0 with c | c
  · rw [if_pos (by simpa using c)] at hq
    simp -dsimp only [Vm.E, List.lookup, Nat.reduceAdd, Nat.reduceBEq, Int.reduceBNe, Int.reduceBEq, Bool.true_beq, Bool.false_beq, Vm.S, Nat.reduceLeDiff, q74, c]
    refine call_one (S := commitSpec) rfl _ GaL.rfl ⟨V, f, rfl, hB.1.1, hfn, fun h1 g1 g2 g3 => ?_⟩
    have hR1 : isRef h1 R f := hB.1.2.1.same g3 fun i hi hm => by
      simp only [List.mem_cons, List.not_mem_nil, or_false] at hm
      rcases hm with rfl | rfl
      · exact hB.1.2.2 V.ic (by simp) hi
      · exact hB.1.2.2 V.im (by simp) hi
    simp -dsimp only [Vm.E, List.lookup, Nat.reduceAdd, Nat.reduceBEq, Int.reduceBNe, Int.reduceBEq, Bool.true_beq, Bool.false_beq, Vm.S, Nat.reduceLeDiff, q74]
    refine call_one (S := rComSpec) rfl _ GaL.rfl ⟨R, f, rfl, hR1, fun h2 k1 k2 k3 => ?_⟩
    have hB2 := both_turn hB.1 g1 g3 k1 k3 g2 k2 (.inl rfl)
    simp -dsimp only [Vm.E, List.lookup, Nat.reduceAdd, Nat.reduceBEq, Int.reduceBNe, Int.reduceBEq, Bool.true_beq, Bool.false_beq, Vm.S, Nat.reduceLeDiff, q74]
    refine call_one (S := samesSpec) rfl _ GaL.rfl ⟨V, rComId R h1, f, rfl, hB2.1, hfn, fun h3 hB3 hs3 => ?_⟩
    simp -dsimp only [Vm.E, List.lookup, Nat.reduceAdd, Nat.reduceBEq, Int.reduceBNe, Int.reduceBEq, Bool.true_beq, Bool.false_beq, Vm.S, Nat.reduceLeDiff, q74]
    exact hq (rComId R h1) h3 rfl (Both.quietB hB2 hB3 hs3)
  · rw [if_neg (by simpa using c)] at hq
    simp -dsimp only [Vm.E, List.lookup, Nat.reduceAdd, Nat.reduceBEq, Int.reduceBNe, Int.reduceBEq, Bool.true_beq, Bool.false_beq, Vm.S, Nat.reduceLeDiff, q74, c]
    refine call_one (S := abortSpec) rfl _ GaL.rfl ⟨V, f, g, rfl, hB.1.1, hB.2.1, fun h1 g1 g2 g3 => ?_⟩
    have hd : ∀ i ∈ [R.iv, R.iw, R.inn, R.it], i ∉ [V.ic] := fun i hi hm => by
      simp only [List.mem_cons, List.not_mem_nil, or_false] at hm
      subst hm
      exact hB.1.2.2 V.ic (by simp) hi
    have hR1 : isRef h1 R f := hB.1.2.1.same g3 hd
    have hW1 : wasR h1 R g := hB.2.2.same g3 (hd _ (by simp))
    have g3' : Same h h1 [V.ic, V.im] := ⟨g3.1, fun i hi hm => g3.2 i hi (by simp at hm ⊢; exact hm.1)⟩
    simp -dsimp only [Vm.E, List.lookup, Nat.reduceAdd, Nat.reduceBEq, Int.reduceBNe, Int.reduceBEq, Bool.true_beq, Bool.false_beq, Vm.S, Nat.reduceLeDiff, q74]
    refine call_one (S := rAbSpec) rfl _ GaL.rfl ⟨R, f, g, rfl, hR1, hW1, fun h2 k1 k2 k3 => ?_⟩
    have hB2 := both_turn hB.1 g1 g3' k1 k3 g2 k2 (.inr rfl)
    simp -dsimp only [Vm.E, List.lookup, Nat.reduceAdd, Nat.reduceBEq, Int.reduceBNe, Int.reduceBEq, Bool.true_beq, Bool.false_beq, Vm.S, Nat.reduceLeDiff, q74]
    refine call_one (S := samesSpec) rfl _ GaL.rfl ⟨V, rAbId R h1, g, rfl, hB2.1, hgn, fun h3 hB3 hs3 => ?_⟩
    simp -dsimp only [Vm.E, List.lookup, Nat.reduceAdd, Nat.reduceBEq, Int.reduceBNe, Int.reduceBEq, Bool.true_beq, Bool.false_beq, Vm.S, Nat.reduceLeDiff, q74]
    exact hq (rAbId R h1) h3 rfl (Both.quietB hB2 hB3 hs3)
def vnewWSpec : Vm.Spec := fun args h Q => args = [nilP] ∧ ∀ (V : VId) (h' : Heap), isView h' V noF → memV h' V noF → Q (.ptr V.iv 0) h'
theorem does_vnewW : Does Tryz.prog 13 vnewWSpec := does_vnew.imp (by
  rintro args h Q ⟨rfl, hq⟩
  refine ⟨rfl, hq ⟨h.length + 2, h.length, h.length + 1⟩ _ (isView_new h) ⟨[], 0, ?_, fun k => rfl, by simp⟩⟩
  rw [List.getElem?_append_right (by simp)]; simp)
def rNewWSpec : Vm.Spec := fun args h Q => ∃ V : VId, args = [.sl 2 []] ∧ isView h V noF ∧ memV h V noF ∧ ∀ (R : RId) (h' : Heap), BothW h' V R noF noF → Q (.ptr R.iv 0) h'
theorem does_rNewW : Does Tryz.prog 21 rNewWSpec := does_rNew.imp (by
  rintro args h Q ⟨V, rfl, hV, ⟨mem, clk, m1, m2⟩, hq⟩
  refine ⟨rfl, hq (rNewId h) _ ⟨both_rnew hV, ⟨mem, clk, heap_get _ m1, m2⟩, ⟨[], ?_, TabIs.new, by simp, by simp⟩⟩⟩
  unfold rNewH rNewId
  rw [List.getElem?_append_right (by simp)]; simp)
def begunWSpec : Vm.Spec := fun args h Q => ∃ l : List Nd, l.length ≤ 1048576 ∧ (∀ n ∈ l, n.ok) ∧ args = [.sl 12 (l.map ndAv)] ∧ ∀ (V : VId) (R : RId) (h' : Heap), BothW h' V R (begunF l) noF → Q (.tup [.ptr V.iv 0, .ptr R.iv 0]) h'
set_option maxRecDepth 20000 in
set_option maxHeartbeats 1000000 in
theorem does_begunW31 : Does Tryz.prog 70 begunWSpec := by
  refine does_of_awp (good_cons does_vnewW (good_cons does_rNewW (good_cons does_yOpen (good_cons does_rOpen (good_cons does_tput (good_cons does_rtPut good_nil)))))) Tryz.func70 rfl (by decide +kernel) (by decide +kernel) ?_
  rintro args h Q ⟨l, hl, hok, rfl, hq⟩
  refine ⟨by simp [Tryz.f70], ?_⟩
  rw [awpFunc_some (by rfl)]
  simp -dsimp only [Vm.E, List.lookup, Nat.reduceAdd, Nat.reduceBEq, Int.reduceBNe, Int.reduceBEq, Bool.true_beq, Bool.false_beq, Vm.S, Nat.reduceLeDiff, q70]
  refine call_one (S := vnewWSpec) rfl _ GaL.rfl ⟨rfl, fun V h00 hV00 hm00 => ?_⟩
  simp -dsimp only [Vm.E, List.lookup, Nat.reduceAdd, Nat.reduceBEq, Int.reduceBNe, Int.reduceBEq, Bool.true_beq, Bool.false_beq, Vm.S, Nat.reduceLeDiff, q70]
  refine call_one (S := rNewWSpec) rfl _ (.cons (.nil 2) .nil) ⟨V, rfl, hV00, hm00, fun R h0 hB0 => ?_⟩
  clear hV00 hm00
  simp -dsimp only [Vm.E, List.lookup, Nat.reduceAdd, Nat.reduceBEq, Int.reduceBNe, Int.reduceBEq, Bool.true_beq, Bool.false_beq, Vm.S, Nat.reduceLeDiff, q70]
  refine call_one (S := yOpenSpec) rfl _ GaL.rfl ⟨V, noF, 2020, rfl, hB0.1.1, fun h1 g1 g2 => ?_⟩
  simp -dsimp only [Vm.E, List.lookup, Nat.reduceAdd, Nat.reduceBEq, Int.reduceBNe, Int.reduceBEq, Bool.true_beq, Bool.false_beq, Vm.S, Nat.reduceLeDiff, q70]
  refine call_one (S := rOpenSpec) rfl _ GaL.rfl ⟨R, noF, 2020, rfl, hB0.1.view g1 g2, by decide, fun h2 g3 g4 => ?_⟩
  have hB1 := hB0.step g1 g2 g3 g4
  clear hB0 g1 g2 g3 g4
  simp -dsimp only [Vm.E, List.lookup, Nat.reduceAdd, Nat.reduceBEq, Int.reduceBNe, Int.reduceBEq, Bool.true_beq, Bool.false_beq, Vm.S, Nat.reduceLeDiff, q70]
  refine awp_loop (fun m s h' => ∃ i : Nat, i + m = l.length ∧ BothW h' V R (begunF (l.take i)) noF ∧ s = mk [(4, .ptr V.iv 0), (5, .ptr R.iv 0), (14, .sl 12 (l.map ndAv)), (15, .v (.int .i64 l.length)), (16, .v (.int .i64 (i : Nat)))])
    l.length _ (le_mk _ ?_) ⟨0, by omega, hB1, rfl⟩ ?_
  · simp only [List.forall_mem_cons, List.not_mem_nil, false_imp_iff, implies_true, and_true]
    try simp -dsimp only [Vm.E, List.lookup, Nat.reduceAdd, Nat.reduceBEq, Int.reduceBNe, Int.reduceBEq, Bool.true_beq, Bool.false_beq, Vm.S, Nat.reduceLeDiff, q70]
    repeat' first | exact Fg.refl _ | exact Fg.nil _ _ _ (by decide) | refine And.intro ?_ ?_
  · clear hB1
    rintro m s h' ⟨i, hi, hB, rfl⟩
    simp -dsimp only [Vm.E, List.lookup, Nat.reduceAdd, Nat.reduceBEq, Int.reduceBNe, Int.reduceBEq, Bool.true_beq, Bool.false_beq, Vm.S, Nat.reduceLeDiff, q70]
    refine cond_intro (fun hcc => ?_) (fun hcc => ?_)
    · have hlt : i < l.length := by have := of_decide_eq_true hcc; omega
      have hw : IntKind.i64.wrap ((i : Int) + 1) = ((i + 1 : Nat) : Int) := by rw [wrap_i64 (by omega) (by omega)]; simp
      have hfn := begunF_n (l.take i)
      have htl : (l.take i).length ≤ i := by rw [List.length_take]; omega
      have est : begunF (l.take (i + 1)) = putN (begunF (l.take i)) l[i] := by
        unfold begunF
        rw [List.take_succ_eq_append_getElem hlt, List.foldl_append]; rfl
      have ho := hok l[i] (List.getElem_mem hlt)
      simp -dsimp only [Vm.E, List.lookup, Nat.reduceAdd, Nat.reduceBEq, Int.reduceBNe, Int.reduceBEq, Bool.true_beq, Bool.false_beq, Vm.S, Nat.reduceLeDiff, q70]
      refine idx_map ndAv l i hlt ?_
      generalize l[i] = n at est ho
      have hok2 : (yr20 n).ok := ⟨by show I64 2020; unfold I64; omega, ho.2⟩
      simp only [ndAv, ndCells]
      simp -dsimp only [Vm.E, List.lookup, Nat.reduceAdd, Nat.reduceBEq, Int.reduceBNe, Int.reduceBEq, Bool.true_beq, Bool.false_beq, Vm.S, Nat.reduceLeDiff, q70, AV.cells]
      refine call_one (S := tputSpec) rfl _ GaL.rfl ⟨V, begunF (l.take i), yr20 n, rfl, hok2, hB.1.1, fun h2 g1 g2 => ?_⟩
      simp -dsimp only [Vm.E, List.lookup, Nat.reduceAdd, Nat.reduceBEq, Int.reduceBNe, Int.reduceBEq, Bool.true_beq, Bool.false_beq, Vm.S, Nat.reduceLeDiff, q70]
      refine call_one (S := rtPutSpec) rfl _ GaL.rfl ⟨R, begunF (l.take i), yr20 n, rfl, hok2, hB.1.view g1 g2, by omega, fun h3 g3 g4 => ?_⟩
      have hB2 := hB.step g1 g2 g3 g4
      have hB2 : BothW h3 V R (begunF (l.take (i + 1))) noF := by rw [est]; exact hB2
      simp -dsimp only [Vm.E, List.lookup, Nat.reduceAdd, Nat.reduceBEq, Int.reduceBNe, Int.reduceBEq, Bool.true_beq, Bool.false_beq, Vm.S, Nat.reduceLeDiff, q70]
      refine kept_intro ⟨l.length - (i + 1), by omega, _, le_mk [(4, .ptr V.iv 0), (5, .ptr R.iv 0), (14, .sl 12 (l.map ndAv)), (15, .v (.int .i64 l.length)), (16, .v (.int .i64 (i + 1 : Nat)))] ?_, i + 1, by omega, hB2, rfl⟩
      simp only [List.forall_mem_cons, List.not_mem_nil, false_imp_iff, implies_true, and_true, hw]
      try simp -dsimp only [Vm.E, List.lookup, Nat.reduceAdd, Nat.reduceBEq, Int.reduceBNe, Int.reduceBEq, Bool.true_beq, Bool.false_beq, Vm.S, Nat.reduceLeDiff, q70, hw]
      repeat' first | exact Fg.refl _ | exact Fg.nil _ _ _ (by decide) | refine And.intro ?_ ?_
    · have hge : ¬ i < l.length := by have := of_decide_eq_false hcc; omega
      rw [List.take_of_length_le (by omega)] at hB
      simp -dsimp only [Vm.E, List.lookup, Nat.reduceAdd, Nat.reduceBEq, Int.reduceBNe, Int.reduceBEq, Bool.true_beq, Bool.false_beq, Vm.S, Nat.reduceLeDiff, q70]
      exact hq V R h' hB
structure Dop where
  year : Int
  frm : Int
  lines : List Ln
def dopAv (k : Dop) : AV := .agg [.v (.int .i64 k.year), .v (.int .i64 k.frm), .sl 4 (k.lines.map lnAv)]
def Dop.ok (k : Dop) : Prop := I64 k.year ∧ I64 k.frm ∧ ∀ x ∈ k.lines, x.ok
def fewWSpec : Vm.Spec := fun args h Q => ∃ (ns : List Nd) (l : List Dop), l.length ≤ 9223372036854775807 ∧ args = [.sl 12 (ns.map ndAv), .sl 3 (l.map dopAv)] ∧ ∀ b : Bool, (b = true → ns.length ≤ 20 ∧ l.length ≤ 20 ∧ ∀ k ∈ l, k.lines.length ≤ 20) → Q (.v (.bool b)) h
set_option maxHeartbeats 1000000 in
theorem does_few31 : Does Tryz.prog 68 fewWSpec := by
  refine does_of_awp good_nil Tryz.func68 rfl (by decide +kernel) (by decide +kernel) ?_
  rintro args h Q ⟨ns, l, hl, rfl, hq⟩
  refine ⟨by simp [Tryz.f68], ?_⟩
  rw [awpFunc_some (by rfl)]
  simp -dsimp only [Vm.E, List.lookup, Nat.reduceAdd, Nat.reduceBEq, Int.reduceBNe, Int.reduceBEq, Bool.true_beq, Bool.false_beq, Vm.S, Nat.reduceLeDiff, q68]
  have h1 := Bool.eq_false_or_eq_true (decide ((ns.length : Int) > 20))
  rcases h1 with c1 | c1
  · simp -dsimp only [Vm.E, List.lookup, Nat.reduceAdd, Nat.reduceBEq, Int.reduceBNe, Int.reduceBEq, Bool.true_beq, Bool.false_beq, Vm.S, Nat.reduceLeDiff, q68, c1]
    exact hq false fun h => by cases h
  · have d1 := of_decide_eq_false c1
    simp -dsimp only [Vm.E, List.lookup, Nat.reduceAdd, Nat.reduceBEq, Int.reduceBNe, Int.reduceBEq, Bool.true_beq, Bool.false_beq, Vm.S, Nat.reduceLeDiff, q68, c1]
    have h2 := Bool.eq_false_or_eq_true (decide ((l.length : Int) > 20))
    rcases h2 with c2 | c2
    · simp -dsimp only [Vm.E, List.lookup, Nat.reduceAdd, Nat.reduceBEq, Int.reduceBNe, Int.reduceBEq, Bool.true_beq, Bool.false_beq, Vm.S, Nat.reduceLeDiff, q68, c2]
      exact hq false fun h => by cases h
    · have d2 := of_decide_eq_false c2
      simp -dsimp only [Vm.E, List.lookup, Nat.reduceAdd, Nat.reduceBEq, Int.reduceBNe, Int.reduceBEq, Bool.true_beq, Bool.false_beq, Vm.S, Nat.reduceLeDiff, q68, c2]
      refine awp_loop (fun m s h' => ∃ i : Nat, i + m = l.length ∧ h' = h ∧ (∀ j (hj : j < l.length), j < i → l[j].lines.length ≤ 20) ∧ s = mk [(15, .sl 3 (l.map dopAv)), (16, .v (.int .i64 l.length)), (17, .v (.int .i64 i))])
        l.length _ (le_mk _ ?_) ⟨0, by omega, rfl, fun _ _ hj => by omega, rfl⟩ ?_
      · simp only [List.forall_mem_cons, List.not_mem_nil, false_imp_iff, implies_true, and_true]
        try simp -dsimp only [Vm.E, List.lookup, Nat.reduceAdd, Nat.reduceBEq, Int.reduceBNe, Int.reduceBEq, Bool.true_beq, Bool.false_beq, Vm.S, Nat.reduceLeDiff, q68]
        repeat' first | exact Fg.refl _ | exact Fg.nil _ _ _ (by decide) | refine And.intro ?_ ?_
      · rintro m s h' ⟨i, hi, rfl, hb, rfl⟩
        simp -dsimp only [Vm.E, List.lookup, Nat.reduceAdd, Nat.reduceBEq, Int.reduceBNe, Int.reduceBEq, Bool.true_beq, Bool.false_beq, Vm.S, Nat.reduceLeDiff, q68]
        refine cond_intro (fun hcc => ?_) (fun hcc => ?_)
        · have hlt : i < l.length := by have := of_decide_eq_true hcc; omega
          have hw : IntKind.i64.wrap ((i : Int) + 1) = ((i + 1 : Nat) : Int) := by rw [wrap_i64 (by omega) (by omega)]; simp
          have hxe : ∃ k, l[i] = k := ⟨_, rfl⟩
          rcases hxe with ⟨k, hk⟩
          simp -dsimp only [Vm.E, List.lookup, Nat.reduceAdd, Nat.reduceBEq, Int.reduceBNe, Int.reduceBEq, Bool.true_beq, Bool.false_beq, Vm.S, Nat.reduceLeDiff, q68]
          refine idx_map dopAv l i hlt ?_
          simp only [hk, dopAv]
          simp -dsimp only [Vm.E, List.lookup, Nat.reduceAdd, Nat.reduceBEq, Int.reduceBNe, Int.reduceBEq, Bool.true_beq, Bool.false_beq, Vm.S, Nat.reduceLeDiff, q68, AV.cells]
          have h3 := Bool.eq_false_or_eq_true (decide ((k.lines.length : Int) > 20))
          rcases h3 with c3 | c3
          · simp -dsimp only [Vm.E, List.lookup, Nat.reduceAdd, Nat.reduceBEq, Int.reduceBNe, Int.reduceBEq, Bool.true_beq, Bool.false_beq, Vm.S, Nat.reduceLeDiff, q68, c3]
            exact hq false fun h => by cases h
          · have d3 := of_decide_eq_false c3
            simp -dsimp only [Vm.E, List.lookup, Nat.reduceAdd, Nat.reduceBEq, Int.reduceBNe, Int.reduceBEq, Bool.true_beq, Bool.false_beq, Vm.S, Nat.reduceLeDiff, q68, c3]
            refine kept_intro ⟨l.length - (i + 1), by omega, _, le_mk [(15, .sl 3 (l.map dopAv)), (16, .v (.int .i64 l.length)), (17, .v (.int .i64 (i + 1 : Nat)))] ?_, i + 1, by omega, rfl, fun j hj hj2 => ?_, rfl⟩
            · simp only [List.forall_mem_cons, List.not_mem_nil, false_imp_iff, implies_true, and_true, hw]
              try simp -dsimp only [Vm.E, List.lookup, Nat.reduceAdd, Nat.reduceBEq, Int.reduceBNe, Int.reduceBEq, Bool.true_beq, Bool.false_beq, Vm.S, Nat.reduceLeDiff, q68, hw]
              repeat' first | exact Fg.refl _ | exact Fg.nil _ _ _ (by decide) | refine And.intro ?_ ?_
            · by_cases hji : j = i
              · subst hji; rw [hk]; omega
              · exact hb j hj (by omega)
        · have hge : ¬ i < l.length := by have := of_decide_eq_false hcc; omega
          simp -dsimp only [Vm.E, List.lookup, Nat.reduceAdd, Nat.reduceBEq, Int.reduceBNe, Int.reduceBEq, Bool.true_beq, Bool.false_beq, Vm.S, Nat.reduceLeDiff, q68]
          refine hq true fun _ => ⟨by omega, by omega, fun k hk => ?_⟩
          obtain ⟨j, hj, rfl⟩ := List.getElem_of_mem hk
          exact hb j hj (by omega)
theorem turnF_n {e : Int} {f g : Fun} {b : Nat} (h1 : f.n ≤ b) (h2 : g.n ≤ b) : (turnF e f g).n ≤ b := by unfold turnF; split <;> assumption
def plawSpec : Vm.Spec := fun args h Q => ∃ (ns : List Nd) (l : List Dop), ns.length ≤ 9223372036854775807 ∧ l.length ≤ 9223372036854775807 ∧ (∀ n ∈ ns, n.ok) ∧ (∀ k ∈ l, k.ok) ∧ args = [.sl 12 (ns.map ndAv), .sl 3 (l.map dopAv)] ∧ ∀ h', Q (.v (.bool true)) h'
set_option maxRecDepth 20000 in
set_option maxHeartbeats 4000000 in
theorem does_plaw : Does Tryz.prog 10 plawSpec := by
  refine does_of_awp (good_cons does_few31 (good_cons does_begunW31 (good_cons does_preNew (good_cons does_rPreNew (good_cons does_preCheck (good_cons does_rPreCheck (good_cons does_end31 (good_cons does_law31awake good_nil)))))))) Tryz.func10 rfl (by decide +kernel) (by decide +kernel) ?_
  rintro args h Q ⟨ns, l, hns, hl, hnok, hlok, rfl, hq⟩
  refine ⟨by simp [Tryz.f10], ?_⟩
  rw [awpFunc_some (by rfl)]
  simp -dsimp only [Vm.E, List.lookup, Nat.reduceAdd, Nat.reduceBEq, Int.reduceBNe, Int.reduceBEq, Bool.true_beq, Bool.false_beq, Vm.S, Nat.reduceLeDiff, q10]
  refine call_one (S := fewWSpec) rfl _ GaL.rfl ⟨ns, l, hl, rfl, fun b hb => ?_⟩
  have h0 := Bool.eq_false_or_eq_true b
  rcases h0 with c | c
  · have hbb := hb c
    rcases hbb with ⟨b1, b2, b3⟩
    simp -dsimp only [Vm.E, List.lookup, Nat.reduceAdd, Nat.reduceBEq, Int.reduceBNe, Int.reduceBEq, Bool.true_beq, Bool.false_beq, Vm.S, Nat.reduceLeDiff, q10, c]
    refine call_one (S := begunWSpec) rfl _ GaL.rfl ⟨ns, by omega, hnok, rfl, fun V R0 h1 hB => ?_⟩
    have hbn := begunF_n ns
    generalize begunF ns = f0 at hB hbn
    have hr0 : ∃ r0, r0 = R0.iv := ⟨_, rfl⟩
    rcases hr0 with ⟨r0, hr0⟩
    rw [← hr0]
    simp -dsimp only [Vm.E, List.lookup, Nat.reduceAdd, Nat.reduceBEq, Int.reduceBNe, Int.reduceBEq, Bool.true_beq, Bool.false_beq, Vm.S, Nat.reduceLeDiff, q10]
    refine awp_loop (fun m s h' => ∃ (i : Nat) (R : RId) (f g : Fun), i + m = l.length ∧ R.iv = r0 ∧ BothW h' V R f g ∧ f.n ≤ 21 + 56 * i ∧ g.n ≤ 21 + 56 * i ∧ s = mk [(5, .ptr V.iv 0), (6, .ptr r0 0), (25, .sl 3 (l.map dopAv)), (26, .v (.int .i64 l.length)), (27, .v (.int .i64 (i : Nat)))])
      l.length _ (le_mk _ ?_) ⟨0, R0, f0, noF, by omega, hr0.symm, hB, by omega, Nat.zero_le _, rfl⟩ ?_
    · simp only [List.forall_mem_cons, List.not_mem_nil, false_imp_iff, implies_true, and_true]
      try simp -dsimp only [Vm.E, List.lookup, Nat.reduceAdd, Nat.reduceBEq, Int.reduceBNe, Int.reduceBEq, Bool.true_beq, Bool.false_beq, Vm.S, Nat.reduceLeDiff, q10]
      repeat' first | exact Fg.refl _ | exact Fg.nil _ _ _ (by decide) | refine And.intro ?_ ?_
    · clear hB hbn hr0
      rintro m s h' ⟨i, R, f, g, hi, hr, hB, hfn, hgn, rfl⟩
      simp -dsimp only [Vm.E, List.lookup, Nat.reduceAdd, Nat.reduceBEq, Int.reduceBNe, Int.reduceBEq, Bool.true_beq, Bool.false_beq, Vm.S, Nat.reduceLeDiff, q10]
      refine cond_intro (fun hcc => ?_) (fun hcc => ?_)
      · have hlt : i < l.length := by have := of_decide_eq_true hcc; omega
        have hw : IntKind.i64.wrap ((i : Int) + 1) = ((i + 1 : Nat) : Int) := by rw [wrap_i64 (by omega) (by omega)]; simp
        have hk := hlok l[i] (List.getElem_mem hlt)
        have hk2 := b3 l[i] (List.getElem_mem hlt)
        have hxe : ∃ k, l[i] = k := ⟨_, rfl⟩
        rcases hxe with ⟨k, hkx⟩
        rw [hkx] at hk hk2
        rcases hk with ⟨o1, o2, o3⟩
        have hpn := preNew_n f k.year k.lines
        simp -dsimp only [Vm.E, List.lookup, Nat.reduceAdd, Nat.reduceBEq, Int.reduceBNe, Int.reduceBEq, Bool.true_beq, Bool.false_beq, Vm.S, Nat.reduceLeDiff, q10]
        refine idx_map dopAv l i hlt ?_
        simp only [hkx, dopAv]
        simp -dsimp only [Vm.E, List.lookup, Nat.reduceAdd, Nat.reduceBEq, Int.reduceBNe, Int.reduceBEq, Bool.true_beq, Bool.false_beq, Vm.S, Nat.reduceLeDiff, q10, AV.cells]
        refine call_one (S := preNewSpec) rfl _ GaL.rfl ⟨V, f, k.year, k.lines, o1, by omega, o3, rfl, hB.1.1, fun h2 g1 g2 => ?_⟩
        simp -dsimp only [Vm.E, List.lookup, Nat.reduceAdd, Nat.reduceBEq, Int.reduceBNe, Int.reduceBEq, Bool.true_beq, Bool.false_beq, Vm.S, Nat.reduceLeDiff, q10]
        refine call_one (S := rPreNewSpec) rfl _ GaL.rfl ⟨R, f, k.year, k.lines, o1, by omega, o3, by rw [hr], hB.1.view g1 g2, by omega, fun h3 g3 g4 => ?_⟩
        have hB2 := hB.step g1 g2 g3 g4
        generalize preNew f k.year k.lines = q at hpn hB2 ⊢
        rcases q with ⟨q0, qi, qw, qe⟩
        simp only at hpn hB2 ⊢
        simp -dsimp only [Vm.E, List.lookup, Nat.reduceAdd, Nat.reduceBEq, Int.reduceBNe, Int.reduceBEq, Bool.true_beq, Bool.false_beq, Vm.S, Nat.reduceLeDiff, q10]
        refine draw_cont [8] (.take 0 (.take 1 (.take 2 (.take 3 (.take 4 (.take 5 (.take 6 (.take 7 (.take 8 (.take 9 (.take 10 (.take 11 (.take 12 (.take 13 (.take 14 (.take 17 (.alt 15 (.alt 16 (.alt 18 (.alt 19 (.take 20 (.take 21 (.take 22 (.take 23 (.take 24 (.take 25 (.alt 26 (.take 27 (.take 28 (.done))) .stop))))))) .stop) .stop) (.alt 18 (.alt 16 (.alt 19 (.take 20 (.take 21 (.take 22 (.take 23 (.take 24 (.take 25 (.alt 26 (.take 27 (.take 28 (.done))) .stop))))))) .stop) .stop) (.stop))) (.alt 18 (.alt 15 (.alt 16 (.alt 19 (.take 20 (.take 21 (.take 22 (.take 23 (.take 24 (.take 25 (.alt 26 (.take 27 (.take 28 (.done))) .stop))))))) .stop) .stop) .stop) (.stop))))))))))))))))))) (fun s h4 => (∃ R2 : RId, R2.iv = r0 ∧ BothW h4 V R2 (turnF qe q0 g) (turnF qe q0 g)) ∧ s 79 = .v (.bool false) ∧ s 5 = .ptr V.iv 0 ∧ s 6 = .ptr r0 0 ∧ s 25 = .sl 3 (l.map dopAv) ∧ s 26 = .v (.int .i64 l.length) ∧ s 27 = .v (.int .i64 i)) (by kernel_rfl) (by kernel_rfl) (by kernel_rfl) (by decide) ?_ ?_
        · clear hq
          repeat' first
            | with_reducible exact True.intro
            | simp -dsimp only [Vm.E, List.lookup, Nat.reduceAdd, Nat.reduceBEq, Int.reduceBNe, Int.reduceBEq, Bool.true_beq, Bool.false_beq, Vm.S, Nat.reduceLeDiff, q10, bool_neq, bne_self_eq_false, beq_self_eq_true]
            | refine call_one (S := preCheckSpec) rfl _ GaL.rfl ⟨k.lines, by omega, rfl, ?_⟩
            | refine call_one (S := endSpec) rfl _ GaL.rfl ⟨V, R, q0, g, qe, by rw [hr], hB2, by omega, by omega, fun R2 h4 e4 hB4 => ?_⟩
            | refine tree_alt ?_ ?_
            | refine ⟨⟨R2, e4.trans hr, hB4⟩, ?_⟩
            | repeat' first | rfl | exact True.intro | refine And.intro ?_ ?_
        · rintro s h4 ⟨⟨R2, e2, hB4⟩, e79, e5, e6, e25, e26, e27⟩
          simp -dsimp only [Vm.E, List.lookup, Nat.reduceAdd, Nat.reduceBEq, Int.reduceBNe, Int.reduceBEq, Bool.true_beq, Bool.false_beq, Vm.S, Nat.reduceLeDiff, q10, e79, e5, e6, e25, e26, e27]
          refine kept_intro ⟨l.length - (i + 1), by omega, _, le_mk [(5, .ptr V.iv 0), (6, .ptr r0 0), (25, .sl 3 (l.map dopAv)), (26, .v (.int .i64 l.length)), (27, .v (.int .i64 (i + 1 : Nat)))] ?_, i + 1, R2, _, _, by omega, e2, hB4, turnF_n (by omega) (by omega), turnF_n (by omega) (by omega), rfl⟩
          simp only [List.forall_mem_cons, List.not_mem_nil, false_imp_iff, implies_true, and_true, hw, e5, e6, e25, e26, e27]
          try simp -dsimp only [Vm.E, List.lookup, Nat.reduceAdd, Nat.reduceBEq, Int.reduceBNe, Int.reduceBEq, Bool.true_beq, Bool.false_beq, Vm.S, Nat.reduceLeDiff, q10, hw, e5, e6, e25, e26, e27]
          repeat' first | exact Fg.refl _ | exact Fg.nil _ _ _ (by decide) | refine And.intro ?_ ?_
      · have hge : ¬ i < l.length := by have := of_decide_eq_false hcc; omega
        clear hcc
        simp -dsimp only [Vm.E, List.lookup, Nat.reduceAdd, Nat.reduceBEq, Int.reduceBNe, Int.reduceBEq, Bool.true_beq, Bool.false_beq, Vm.S, Nat.reduceLeDiff, q10]
        refine call_one (S := trueSpec) rfl _ GaL.rfl ⟨rfl, fun hz => ?_⟩
        simp -dsimp only [Vm.E, List.lookup, Nat.reduceAdd, Nat.reduceBEq, Int.reduceBNe, Int.reduceBEq, Bool.true_beq, Bool.false_beq, Vm.S, Nat.reduceLeDiff, q10]
        exact hq _
  · simp -dsimp only [Vm.E, List.lookup, Nat.reduceAdd, Nat.reduceBEq, Int.reduceBNe, Int.reduceBEq, Bool.true_beq, Bool.false_beq, Vm.S, Nat.reduceLeDiff, q10, c]
    refine call_one (S := trueSpec) rfl _ GaL.rfl ⟨rfl, fun hz => ?_⟩
    simp -dsimp only [Vm.E, List.lookup, Nat.reduceAdd, Nat.reduceBEq, Int.reduceBNe, Int.reduceBEq, Bool.true_beq, Bool.false_beq, Vm.S, Nat.reduceLeDiff, q10]
    exact hq _
theorem isA_lnk {y : AV} (h : IsA (.agg [.int .i64, .int .i64, .int .i64, .int .i64]) y) : ∃ x : Ln, x.ok ∧ y = lnAv x := by
  simp only [IsA, IsAll] at h
  obtain ⟨ys, ⟨y1, r1, rfl, h1, y2, r2, rfl, h2, y3, r3, rfl, h3, y4, r4, rfl, h4, rfl⟩, rfl⟩ := h
  obtain ⟨a1, k1, rfl⟩ := isA_int (by simpa only [IsA] using h1)
  obtain ⟨a2, k2, rfl⟩ := isA_int (by simpa only [IsA] using h2)
  obtain ⟨a3, k3, rfl⟩ := isA_int (by simpa only [IsA] using h3)
  obtain ⟨a4, k4, rfl⟩ := isA_int (by simpa only [IsA] using h4)
  exact ⟨⟨a1, a2, a3, a4⟩, ⟨k1, k2, k3, k4⟩, rfl⟩
theorem isA_dop {y : AV} (h : IsA (.agg [.int .i64, .int .i64, .sl (.agg [.int .i64, .int .i64, .int .i64, .int .i64])]) y) : ∃ k : Dop, k.ok ∧ y = dopAv k := by
  simp only [IsA, IsAll] at h
  obtain ⟨ys, ⟨y1, r1, rfl, h1, y2, r2, rfl, h2, y3, r3, rfl, h3, rfl⟩, rfl⟩ := h
  obtain ⟨a1, k1, rfl⟩ := isA_int (by simpa only [IsA] using h1)
  obtain ⟨a2, k2, rfl⟩ := isA_int (by simpa only [IsA] using h2)
  obtain ⟨ll, -, rfl, hll⟩ := isA_list _ lnAv (fun y hy => isA_lnk hy) (by simpa only [IsA, IsAll] using h3)
  exact ⟨⟨a1, a2, ll⟩, ⟨k1, k2, hll⟩, rfl⟩
theorem plaw_args {y0 y1 : AV} (i0 : IsA (.sl (.agg [.int .i64, .int .i64, .int .i64, .int .i64, .int .i64, .bool, .int .i64, .int .i64, .int .i64, .int .i64, .int .i64, .int .i64])) y0) (i1 : IsA (.sl (.agg [.int .i64, .int .i64, .sl (.agg [.int .i64, .int .i64, .int .i64, .int .i64])])) y1) {Q : AV → Heap → Prop} (hq : ∀ h', Q (.v (.bool true)) h') : plawSpec [y0, y1] [] Q := by
  obtain ⟨ns, h1, rfl, o1⟩ := isA_list _ ndAv (fun y hy => isA_nd hy) i0
  obtain ⟨l, h2, rfl, o2⟩ := isA_list _ dopAv (fun y hy => isA_dop hy) i1
  exact ⟨ns, l, h1, h2, o1, o2, rfl, hq⟩
end Go.Proofs.Lx
