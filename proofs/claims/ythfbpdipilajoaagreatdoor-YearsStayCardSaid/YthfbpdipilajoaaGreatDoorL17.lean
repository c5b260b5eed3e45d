/- The pairs of a view: which were changed. -/
import Derived.Test.YthfbpdipilajoaaGreatDoorL16
set_option linter.unusedSimpArgs false
set_option linter.unusedVariables false
namespace Go.Proofs.Lx
open Go.Vm
attribute [local irreducible] awpArr awpBin awpMake awpAppend awpCvX awpStrOf awpBinX awpSlice awpBS awpStore awpAlloc awpCopy awpIndex awpDraw awpIdxX awpFa awpField awpLookup awpUpdate awpDelete awpClear awpRange awpNext awpEntry awpBuild awpClearS awpIdxL

def askSpec : Vm.Spec := fun args h Q => ∃ (k : List UInt8) (y : AV) (o iv ic im : Nat) (chg : List Ent) (clk : Nat), args = [.agg [.sl 1 (k.map encB), y], .ptr o 0] ∧ solid y = true ∧ y.cells = [y] ∧ val y = y ∧ h[o]? = some (.cells [.ptr iv 0]) ∧ h[iv]? = some (vobj ic im) ∧ h[ic]? = some (.map chg clk) ∧
  (∀ e ∈ chg, WfC e) ∧ Q (.v (.bool (mget (strK k) chg).isSome)) h

set_option maxRecDepth 20000 in
theorem does_ask : Does Tryz.prog 121 askSpec := by
  refine does_of_awp good_nil Tryz.func121 rfl (by decide +kernel) (by decide +kernel) ?_
  rintro args h Q ⟨k, y, o, iv, ic, im, chg, clk, rfl, hy1, hy2, hy3, h0, h1, h2, h5, hq⟩
  refine ⟨by simp [Tryz.f121], ?_⟩
  rw [awpFunc_some (by rfl)]
  have cz : cst (.agg #[.slice none 0 0, .bool false]) = .agg [.v (.slice none 0 0), .v (.bool false)] := by simp [cst, plain]
  have look : ∀ {K : AV → Prop}, (∀ x b, isB x (bytesOf x) ∨ x = .v (.slice none 0 0) → (mget (strK k) chg).isSome = true → K (.tup [.agg [x, .v (.bool b)], .v (.bool true)])) → ((mget (strK k) chg).isSome = false → K (.tup [.agg [.v (.slice none 0 0), .v (.bool false)], .v (.bool false)])) →
      awpLookup Tryz.prog 123 (.mp ic) (.v (.string ⟨k.toArray⟩)) true h K := fun {K} k1 k2 => by
    refine lookup_intro mt123 z134 chg clk h2 trivial (keys_str fun e he => (h5 e he).1) (fun e he => ?_) (fun he => ?_)
    · obtain ⟨-, x, l, b, hx, -, hev⟩ := h5 e (mget_mem he)
      simp only [lookRes, if_true, hev]
      exact k1 x b (by rw [bytesOf_isB hx]; exact .inl hx) (by show (mget (strK k) chg).isSome = true; have he' : mget (strK k) chg = some e := he; rw [he']; rfl)
    · simp only [lookRes, if_true, cz]
      exact k2 (by have he' : mget (strK k) chg = none := he; rw [he']; rfl)
  generalize (mget (strK k) chg).isSome = r at look hq
  simp -dsimp only [Vm.E, List.lookup, Nat.reduceAdd, Nat.reduceBEq, Int.reduceBNe, Int.reduceBEq, Bool.true_beq, Bool.false_beq]
  refine draw_cont [2] (.take 4 (.take 5 (.take 6 (.alt 0 (.take 1 (.take 2 (.alt 3 (.alt 7 (.take 8 (.take 9 (.take 10 (.alt 11 (.alt 12 (.alt 13 (.done) .stop) .stop) .stop)))) (.alt 11 (.alt 7 (.take 8 (.take 9 (.take 10 (.alt 12 (.alt 13 (.done) .stop) .stop)))) .stop) (.stop))) (.alt 11 (.alt 3 (.alt 7 (.take 8 (.take 9 (.take 10 (.alt 12 (.alt 13 (.done) .stop) .stop)))) .stop) .stop) (.stop))))) (.alt 11 (.alt 0 (.take 1 (.take 2 (.alt 3 (.alt 7 (.take 8 (.take 9 (.take 10 (.alt 12 (.alt 13 (.done) .stop) .stop)))) .stop) .stop))) .stop) (.stop)))))) (fun s h' => h' = h ∧ s 5 = .v (.bool r)) (by kernel_rfl) (by kernel_rfl) (by kernel_rfl) (by decide) ?_ ?_
  · simp -dsimp only [Vm.E, List.lookup, Nat.reduceAdd, Nat.reduceBEq, Int.reduceBNe, Int.reduceBEq, Bool.true_beq, Bool.false_beq, fo47_0, of45, Tryz.underlying45, cs45]
    refine strOf_sl bt45 k rfl ?_
    simp -dsimp only [Vm.E, List.lookup, Nat.reduceAdd, Nat.reduceBEq, Int.reduceBNe, Int.reduceBEq, Bool.true_beq, Bool.false_beq]
    refine tree_alt ?_ (tree_alt ?_ trivial)
    · simp -dsimp only [Vm.E, List.lookup, Nat.reduceAdd, Nat.reduceBEq, Int.reduceBNe, Int.reduceBEq, Bool.true_beq, Bool.false_beq, sto_place, sto_box, sto_pp, sto_pc, sto_ptr, sto_cells, stoOk_eq, solid_v, solid_sl, solid_agg, solid_eptr, solid_ptr, solid_mp, solid_clo, cells_eptr, put_nil, put_zero, put_succ, bld_nil, bld_cons, bld_some, bsIx_nil, bsIx_cons, bsAll_nil, bsAll_cons, List.length_cons, List.length_nil, Nat.reduceLeDiff, decide_true, Bool.and_self, Bool.and_true, Bool.true_and, take_sc, take_z, eq_self, h0, h1, fo126_0, of26, of123, al134, sz134]
      refine tree_alt ?_ (tree_alt ?_ trivial)
      · simp -dsimp only [Vm.E, List.lookup, Nat.reduceAdd, Nat.reduceBEq, Int.reduceBNe, Int.reduceBEq, Bool.true_beq, Bool.false_beq, sto_place, sto_box, sto_pp, sto_pc, sto_ptr, sto_cells, stoOk_eq, solid_v, solid_sl, solid_agg, solid_eptr, solid_ptr, solid_mp, solid_clo, cells_eptr, put_nil, put_zero, put_succ, bld_nil, bld_cons, bld_some, bsIx_nil, bsIx_cons, bsAll_nil, bsAll_cons, List.length_cons, List.length_nil, Nat.reduceLeDiff, decide_true, Bool.and_self, Bool.and_true, Bool.true_and, take_sc, take_z, eq_self, h0, h1, fo126_0, of26, of123, al134, sz134]
        refine tree_alt ?_ (tree_alt ?_ trivial)
        · simp -dsimp only [Vm.E, List.lookup, Nat.reduceAdd, Nat.reduceBEq, Int.reduceBNe, Int.reduceBEq, Bool.true_beq, Bool.false_beq, sto_place, sto_box, sto_pp, sto_pc, sto_ptr, sto_cells, stoOk_eq, solid_v, solid_sl, solid_agg, solid_eptr, solid_ptr, solid_mp, solid_clo, cells_eptr, put_nil, put_zero, put_succ, bld_nil, bld_cons, bld_some, bsIx_nil, bsIx_cons, bsAll_nil, bsAll_cons, List.length_cons, List.length_nil, Nat.reduceLeDiff, decide_true, Bool.and_self, Bool.and_true, Bool.true_and, take_sc, take_z, eq_self, h0, h1, fo126_0, of26, of123, al134, sz134]
          refine look (fun x b hx hr => ?_) (fun hr => ?_)
          · rcases hx with (hx | ⟨-, hx⟩) | hx <;> (rw [hx]; simp -dsimp only [Vm.E, List.lookup, Nat.reduceAdd, Nat.reduceBEq, Int.reduceBNe, Int.reduceBEq, Bool.true_beq, Bool.false_beq, sto_place, sto_box, sto_pp, sto_pc, sto_ptr, sto_cells, stoOk_eq, solid_v, solid_sl, solid_agg, solid_eptr, solid_ptr, solid_mp, solid_clo, cells_eptr, put_nil, put_zero, put_succ, bld_nil, bld_cons, bld_some, bsIx_nil, bsIx_cons, bsAll_nil, bsAll_cons, List.length_cons, List.length_nil, Nat.reduceLeDiff, decide_true, Bool.and_self, Bool.and_true, Bool.true_and, take_sc, take_z, eq_self, h0, h1, fo126_0, of26, of123, al134, sz134]; rw [hr])
          · simp -dsimp only [Vm.E, List.lookup, Nat.reduceAdd, Nat.reduceBEq, Int.reduceBNe, Int.reduceBEq, Bool.true_beq, Bool.false_beq, sto_place, sto_box, sto_pp, sto_pc, sto_ptr, sto_cells, stoOk_eq, solid_v, solid_sl, solid_agg, solid_eptr, solid_ptr, solid_mp, solid_clo, cells_eptr, put_nil, put_zero, put_succ, bld_nil, bld_cons, bld_some, bsIx_nil, bsIx_cons, bsAll_nil, bsAll_cons, List.length_cons, List.length_nil, Nat.reduceLeDiff, decide_true, Bool.and_self, Bool.and_true, Bool.true_and, take_sc, take_z, eq_self, h0, h1, fo126_0, of26, of123, al134, sz134]
            rw [hr]
        · simp -dsimp only [Vm.E, List.lookup, Nat.reduceAdd, Nat.reduceBEq, Int.reduceBNe, Int.reduceBEq, Bool.true_beq, Bool.false_beq, sto_place, sto_box, sto_pp, sto_pc, sto_ptr, sto_cells, stoOk_eq, solid_v, solid_sl, solid_agg, solid_eptr, solid_ptr, solid_mp, solid_clo, cells_eptr, put_nil, put_zero, put_succ, bld_nil, bld_cons, bld_some, bsIx_nil, bsIx_cons, bsAll_nil, bsAll_cons, List.length_cons, List.length_nil, Nat.reduceLeDiff, decide_true, Bool.and_self, Bool.and_true, Bool.true_and, take_sc, take_z, eq_self, h0, h1, fo126_0, of26, of123, al134, sz134]
          refine look (fun x b hx hr => ?_) (fun hr => ?_)
          · rcases hx with (hx | ⟨-, hx⟩) | hx <;> (rw [hx]; simp -dsimp only [Vm.E, List.lookup, Nat.reduceAdd, Nat.reduceBEq, Int.reduceBNe, Int.reduceBEq, Bool.true_beq, Bool.false_beq, sto_place, sto_box, sto_pp, sto_pc, sto_ptr, sto_cells, stoOk_eq, solid_v, solid_sl, solid_agg, solid_eptr, solid_ptr, solid_mp, solid_clo, cells_eptr, put_nil, put_zero, put_succ, bld_nil, bld_cons, bld_some, bsIx_nil, bsIx_cons, bsAll_nil, bsAll_cons, List.length_cons, List.length_nil, Nat.reduceLeDiff, decide_true, Bool.and_self, Bool.and_true, Bool.true_and, take_sc, take_z, eq_self, h0, h1, fo126_0, of26, of123, al134, sz134]; rw [hr])
          · simp -dsimp only [Vm.E, List.lookup, Nat.reduceAdd, Nat.reduceBEq, Int.reduceBNe, Int.reduceBEq, Bool.true_beq, Bool.false_beq, sto_place, sto_box, sto_pp, sto_pc, sto_ptr, sto_cells, stoOk_eq, solid_v, solid_sl, solid_agg, solid_eptr, solid_ptr, solid_mp, solid_clo, cells_eptr, put_nil, put_zero, put_succ, bld_nil, bld_cons, bld_some, bsIx_nil, bsIx_cons, bsAll_nil, bsAll_cons, List.length_cons, List.length_nil, Nat.reduceLeDiff, decide_true, Bool.and_self, Bool.and_true, Bool.true_and, take_sc, take_z, eq_self, h0, h1, fo126_0, of26, of123, al134, sz134]
            rw [hr]
      · simp -dsimp only [Vm.E, List.lookup, Nat.reduceAdd, Nat.reduceBEq, Int.reduceBNe, Int.reduceBEq, Bool.true_beq, Bool.false_beq, sto_place, sto_box, sto_pp, sto_pc, sto_ptr, sto_cells, stoOk_eq, solid_v, solid_sl, solid_agg, solid_eptr, solid_ptr, solid_mp, solid_clo, cells_eptr, put_nil, put_zero, put_succ, bld_nil, bld_cons, bld_some, bsIx_nil, bsIx_cons, bsAll_nil, bsAll_cons, List.length_cons, List.length_nil, Nat.reduceLeDiff, decide_true, Bool.and_self, Bool.and_true, Bool.true_and, take_sc, take_z, eq_self, h0, h1, fo126_0, of26, of123, al134, sz134]
        refine look (fun x b hx hr => ?_) (fun hr => ?_)
        · rcases hx with (hx | ⟨-, hx⟩) | hx <;> (rw [hx]; simp -dsimp only [Vm.E, List.lookup, Nat.reduceAdd, Nat.reduceBEq, Int.reduceBNe, Int.reduceBEq, Bool.true_beq, Bool.false_beq, sto_place, sto_box, sto_pp, sto_pc, sto_ptr, sto_cells, stoOk_eq, solid_v, solid_sl, solid_agg, solid_eptr, solid_ptr, solid_mp, solid_clo, cells_eptr, put_nil, put_zero, put_succ, bld_nil, bld_cons, bld_some, bsIx_nil, bsIx_cons, bsAll_nil, bsAll_cons, List.length_cons, List.length_nil, Nat.reduceLeDiff, decide_true, Bool.and_self, Bool.and_true, Bool.true_and, take_sc, take_z, eq_self, h0, h1, fo126_0, of26, of123, al134, sz134]; rw [hr])
        · simp -dsimp only [Vm.E, List.lookup, Nat.reduceAdd, Nat.reduceBEq, Int.reduceBNe, Int.reduceBEq, Bool.true_beq, Bool.false_beq, sto_place, sto_box, sto_pp, sto_pc, sto_ptr, sto_cells, stoOk_eq, solid_v, solid_sl, solid_agg, solid_eptr, solid_ptr, solid_mp, solid_clo, cells_eptr, put_nil, put_zero, put_succ, bld_nil, bld_cons, bld_some, bsIx_nil, bsIx_cons, bsAll_nil, bsAll_cons, List.length_cons, List.length_nil, Nat.reduceLeDiff, decide_true, Bool.and_self, Bool.and_true, Bool.true_and, take_sc, take_z, eq_self, h0, h1, fo126_0, of26, of123, al134, sz134]
          rw [hr]
    · simp -dsimp only [Vm.E, List.lookup, Nat.reduceAdd, Nat.reduceBEq, Int.reduceBNe, Int.reduceBEq, Bool.true_beq, Bool.false_beq, sto_place, sto_box, sto_pp, sto_pc, sto_ptr, sto_cells, stoOk_eq, solid_v, solid_sl, solid_agg, solid_eptr, solid_ptr, solid_mp, solid_clo, cells_eptr, put_nil, put_zero, put_succ, bld_nil, bld_cons, bld_some, bsIx_nil, bsIx_cons, bsAll_nil, bsAll_cons, List.length_cons, List.length_nil, Nat.reduceLeDiff, decide_true, Bool.and_self, Bool.and_true, Bool.true_and, take_sc, take_z, eq_self, h0, h1, fo126_0, of26, of123, al134, sz134]
      refine look (fun x b hx hr => ?_) (fun hr => ?_)
      · rcases hx with (hx | ⟨-, hx⟩) | hx <;> (rw [hx]; simp -dsimp only [Vm.E, List.lookup, Nat.reduceAdd, Nat.reduceBEq, Int.reduceBNe, Int.reduceBEq, Bool.true_beq, Bool.false_beq, sto_place, sto_box, sto_pp, sto_pc, sto_ptr, sto_cells, stoOk_eq, solid_v, solid_sl, solid_agg, solid_eptr, solid_ptr, solid_mp, solid_clo, cells_eptr, put_nil, put_zero, put_succ, bld_nil, bld_cons, bld_some, bsIx_nil, bsIx_cons, bsAll_nil, bsAll_cons, List.length_cons, List.length_nil, Nat.reduceLeDiff, decide_true, Bool.and_self, Bool.and_true, Bool.true_and, take_sc, take_z, eq_self, h0, h1, fo126_0, of26, of123, al134, sz134]; rw [hr])
      · simp -dsimp only [Vm.E, List.lookup, Nat.reduceAdd, Nat.reduceBEq, Int.reduceBNe, Int.reduceBEq, Bool.true_beq, Bool.false_beq, sto_place, sto_box, sto_pp, sto_pc, sto_ptr, sto_cells, stoOk_eq, solid_v, solid_sl, solid_agg, solid_eptr, solid_ptr, solid_mp, solid_clo, cells_eptr, put_nil, put_zero, put_succ, bld_nil, bld_cons, bld_some, bsIx_nil, bsIx_cons, bsAll_nil, bsAll_cons, List.length_cons, List.length_nil, Nat.reduceLeDiff, decide_true, Bool.and_self, Bool.and_true, Bool.true_and, take_sc, take_z, eq_self, h0, h1, fo126_0, of26, of123, al134, sz134]
        rw [hr]
  · rintro s h' ⟨rfl, hs5⟩
    simp -dsimp only [Vm.E, List.lookup, Nat.reduceAdd, Nat.reduceBEq, Int.reduceBNe, Int.reduceBEq, Bool.true_beq, Bool.false_beq, hs5, Tryz.results121]
    exact hq

end Go.Proofs.Lx
