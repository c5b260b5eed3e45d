/- What the functions of the program do: their contracts. -/
import Derived.Test.YtiggbkhkmecagaaGreatDoorV2
import Derived.Test.YtiggbkhkmecagaaGreatDoorTFs
import Derived.Test.YtiggbkhkmecagaaGreatDoorW1
/- The law PreOpen. -/
set_option linter.unusedSimpArgs false
set_option linter.unusedVariables false
namespace Go.Proofs.Lx
open Go.Vm
attribute [local irreducible] awpArr awpBin awpMake awpAppend awpCvX awpStrOf awpBinX awpSlice awpBS awpStore awpAlloc awpCopy awpIndex awpDraw awpIdxX awpFa awpField awpLookup awpUpdate awpDelete awpClear awpRange awpNext awpEntry awpBuild awpClearS awpIdxL awpTree appB awpIdxO eltA treeA
abbrev InR (n : Int) : Prop := 0 ≤ n ∧ n ≤ 4294967295
theorem keyOf_tag {t t' : UInt8} {l l' : List Int} (h : t ≠ t') : keyOf t l ≠ keyOf t' l' := fun e => by
  unfold keyOf at e
  exact h (List.cons.inj e).1
theorem bit_ne (b : Bool) : (bitOf b != 0) = b := by cases b <;> rfl
theorem nodeOf_put {m : Nd} (hm : m.ok) (r1 : InR m.year) (r2 : InR m.id) : nodeOf (ndK m) (ndV m) = some m := by
  have hv : ndV m = packs 8 (ndVal m) := rfl
  have hn : numsOf (packs 8 (ndVal m)) 10 = ndVal m := by
    refine numsOf_packs (ndVal m) fun x hx => ?_
    obtain ⟨o1, o2, o3, o4, o5, o6, o7, o8, o9, o10, o11⟩ := hm
    have ob := bit_i64 m.abs
    simp only [ndVal, List.mem_cons, List.not_mem_nil, or_false] at hx
    rcases hx with rfl | rfl | rfl | rfl | rfl | rfl | rfl | rfl | rfl | rfl <;> assumption
  unfold nodeOf numsPair
  rw [ndK, splitOf_key 78 (ndKey m) (by simp [ndKey])]
  have hk : (ndKey m).map clampK = [m.year, m.id] := by simp [ndKey, clampK_id r1.1 r1.2, clampK_id r2.1 r2.2]
  simp only [hk]
  rw [if_pos ⟨trivial, rfl, ndV_length m⟩, hv, hn]
  obtain ⟨a1, a2, a3, a4, a5, a6, a7, a8, a9, a10, a11, a12⟩ := m
  simp [ndOf, ndVal, bit_ne]
theorem ndK_iff {m : Nd} {y i : Int} (r1 : InR m.year) (r2 : InR m.id) (r3 : InR y) (r4 : InR i) : keyOf 78 [y, i] = ndK m ↔ y = m.year ∧ i = m.id := by
  constructor
  · intro h
    have := (key_inj (by simp) (by simp [ndKey]) h).2
    simp only [List.map_cons, List.map_nil, ndKey, clampK_id r1.1 r1.2, clampK_id r2.1 r2.2, clampK_id r3.1 r3.2, clampK_id r4.1 r4.2] at this
    simpa using this
  · rintro ⟨rfl, rfl⟩; rfl
theorem readOf_other {f : Fun} {k k' : List UInt8} {v : Option (List UInt8)} (h : k' ≠ k) : readOf (upd f k v) k' = readOf f k' := by
  unfold readOf
  rw [upd_app, if_neg h]
def yr20 (n : Nd) : Nd := { n with year := 2020 }
def putN (f : Fun) (n : Nd) : Fun := upd f (ndK (yr20 n)) (some (ndV (yr20 n)))
def begunF (l : List Nd) : Fun := l.foldl putN (openOf noF 2020).1
theorem begunF_n (l : List Nd) : (begunF l).n ≤ l.length + 1 := by
  have : ∀ (l : List Nd) (f : Fun), (l.foldl putN f).n = f.n + l.length := by
    intro l
    induction l with
    | nil => intro f; rfl
    | cons x r ih =>
      intro f
      rw [List.foldl_cons, ih]
      show f.n + 1 + r.length = _
      simp only [List.length_cons]; omega
  unfold begunF
  rw [this]
  have := open_n noF 2020
  have h0 : noF.n = 0 := rfl
  omega
theorem seq_nd (y : Int) (m : Nd) : seqKey y ≠ ndK m := keyOf_tag (t := 83) (t' := 78) (l := [y]) (l' := ndKey m) (by decide)
theorem seq_yr (w y : Int) : seqKey w ≠ yrK y := keyOf_tag (t := 83) (t' := 89) (l := [w]) (l' := [y]) (by decide)
theorem open20 : (openOf noF 2020).1 = yrTurn noF 2020 1 := by
  have : openOf noF 2020 = (yrTurn noF 2020 1, 0) := by unfold openOf; rw [state_new]; rfl
  rw [this]
theorem isA_un {k : IntKind} {x : AV} (h : IsA (.int k) x) : ∃ n : Int, k.min ≤ n ∧ n ≤ k.max ∧ x = .v (.int k n) := by
  simp only [IsA] at h
  obtain ⟨n, hn, rfl⟩ := h
  simp only [Lit.wf, Bool.and_eq_true, decide_eq_true_eq] at hn
  exact ⟨n, hn.1, hn.2, rfl⟩
end Go.Proofs.Lx
/- Two views beside, committed and forgotten: the law PreNew. -/
set_option linter.unusedSimpArgs false
set_option linter.unusedVariables false
namespace Go.Proofs.Lx
open Go.Vm
attribute [local irreducible] awpArr awpBin awpMake awpAppend awpCvX awpStrOf awpBinX awpSlice awpBS awpStore awpAlloc awpCopy awpIndex awpDraw awpIdxX awpFa awpField awpLookup awpUpdate awpDelete awpClear awpRange awpNext awpEntry awpBuild awpClearS awpIdxL awpTree appB awpIdxO eltA treeA
def vnewWSpec : Vm.Spec := fun args h Q => args = [nilP] ∧ ∀ (V : VId) (h' : Heap), isView h' V noF → memV h' V noF → Q (.ptr V.iv 0) h'
theorem does_vnewW : Does Tryz.prog 13 vnewWSpec := does_vnew.imp (by
  rintro args h Q ⟨rfl, hq⟩
  refine ⟨rfl, hq ⟨h.length + 2, h.length, h.length + 1⟩ _ (isView_new h) ⟨[], 0, ?_, fun k => rfl, by simp⟩⟩
  rw [List.getElem?_append_right (by simp)]; simp)
def rNewWSpec : Vm.Spec := fun args h Q => ∃ V : VId, args = [.sl 2 []] ∧ isView h V noF ∧ memV h V noF ∧ ∀ (R : RId) (h' : Heap), BothW h' V R noF noF → Q (.ptr R.iv 0) h'
theorem does_rNewW : Does Tryz.prog 21 rNewWSpec := does_rNew.imp (by
  rintro args h Q ⟨V, rfl, hV, ⟨mem, clk, m1, m2⟩, hq⟩
  refine ⟨rfl, hq (rNewId h) _ ⟨both_rnew hV, ⟨mem, clk, heap_get _ m1, m2⟩, ⟨[], ?_, TabIs.new, by simp, by simp⟩⟩⟩
  unfold rNewH rNewId
  rw [List.getElem?_append_right (by simp)]; simp)
def begunWSpec : Vm.Spec := fun args h Q => ∃ l : List Nd, l.length ≤ 1048576 ∧ (∀ n ∈ l, n.ok) ∧ args = [.sl 12 (l.map ndAv)] ∧ ∀ (V : VId) (R : RId) (h' : Heap), BothW h' V R (begunF l) noF → Q (.tup [.ptr V.iv 0, .ptr R.iv 0]) h'
structure Dop where
  year : Int
  frm : Int
  lines : List Ln
def Dop.ok (k : Dop) : Prop := I64 k.year ∧ I64 k.frm ∧ ∀ x ∈ k.lines, x.ok
end Go.Proofs.Lx
/- Plain laws for DocsBack. -/
set_option linter.unusedSimpArgs false
set_option linter.unusedVariables false
namespace Go.Proofs.Lx
open Go.Vm
attribute [local irreducible] awpArr awpBin awpMake awpAppend awpCvX awpStrOf awpBinX awpSlice awpBS awpStore awpAlloc awpCopy awpIndex awpDraw awpIdxX awpFa awpField awpLookup awpUpdate awpDelete awpClear awpRange awpNext awpEntry awpBuild awpClearS awpIdxL awpTree appB awpIdxO eltA treeA
theorem docOf_put {d : Dc} (hd : d.ok) (hr : InR d.id) : docOf (dcK d.id) (dcV d) = some d := by
  obtain ⟨o1, o2, o3, o4, o5⟩ := hd
  have hv : dcV d = packs 8 [d.kind, d.year, d.frm, d.lines] := rfl
  have hn : numsOf (packs 8 [d.kind, d.year, d.frm, d.lines]) 4 = [d.kind, d.year, d.frm, d.lines] := numsOf_packs [d.kind, d.year, d.frm, d.lines] fun x hx => by
    simp only [List.mem_cons, List.not_mem_nil, or_false] at hx
    rcases hx with rfl | rfl | rfl | rfl <;> assumption
  unfold docOf numsPair
  rw [dcK, splitOf_key 68 [d.id] (by simp)]
  have hk : ([d.id] : List Int).map clampK = [d.id] := by simp [clampK_id hr.1 hr.2]
  simp only [hk]
  rw [if_pos ⟨trivial, rfl, dcV_length d⟩, hv, hn]
  rfl
theorem lineOf_put {x : Dl} (hx : x.ok) {id i : Int} (h1 : InR id) (h2 : InR i) : lineOf (dlK id i) (dlV x) = some x := by
  obtain ⟨o1, o2, o3, o4⟩ := hx
  have hv : dlV x = packs 8 [x.node, x.orig, x.liq, x.can] := rfl
  have hn : numsOf (packs 8 [x.node, x.orig, x.liq, x.can]) 4 = [x.node, x.orig, x.liq, x.can] := numsOf_packs [x.node, x.orig, x.liq, x.can] fun y hy => by
    simp only [List.mem_cons, List.not_mem_nil, or_false] at hy
    rcases hy with rfl | rfl | rfl | rfl <;> assumption
  unfold lineOf numsPair
  rw [dlK, splitOf_key 76 [id, i] (by simp)]
  have hk : ([id, i] : List Int).map clampK = [id, i] := by simp [clampK_id h1.1 h1.2, clampK_id h2.1 h2.2]
  simp only [hk]
  rw [if_pos ⟨trivial, rfl, dlV_length x⟩, hv, hn]
  rfl
theorem putLines_other (id : Int) : ∀ (l : List Dl) (i : Nat) (f : Fun) (k : List UInt8), (∀ j, j < l.length → k ≠ dlK id ((i + j : Nat) : Int)) → putLines id i l f k = f k
  | [], _, _, _, _ => rfl
  | x :: r, i, f, k, h => by
    have h0 := h 0 (by simp)
    show putLines id (i + 1) r (upd f (dlK id i) (some (dlV x))) k = f k
    rw [putLines_other id r (i + 1) _ k fun j hj => by
      have := h (j + 1) (by simpa using hj)
      rwa [show i + (j + 1) = i + 1 + j by omega] at this]
    rw [upd_app, if_neg (by simpa using h0)]
/-- The first document of a view. -/
def dc1 (d : Dc) (l : List Dl) : Dc := { d with id := 1, lines := l.length }
theorem dc1_ok {d : Dc} {l : List Dl} (hd : d.ok) (h6 : l.length ≤ 6) : (dc1 d l).ok := by
  obtain ⟨o1, o2, o3, o4, o5⟩ := hd
  exact ⟨by show I64 1; unfold I64; omega, o2, o3, o4, by show I64 (l.length : Int); unfold I64; omega⟩
end Go.Proofs.Lx
/- The law DocsBack: walks. -/
set_option linter.unusedSimpArgs false
set_option linter.unusedVariables false
namespace Go.Proofs.Lx
open Go.Vm
attribute [local irreducible] awpArr awpBin awpMake awpAppend awpCvX awpStrOf awpBinX awpSlice awpBS awpStore awpAlloc awpCopy awpIndex awpDraw awpIdxX awpFa awpField awpLookup awpUpdate awpDelete awpClear awpRange awpNext awpEntry awpBuild awpClearS awpIdxL awpTree appB awpIdxO eltA treeA
end Go.Proofs.Lx
/- Encumbrances, the reference's: ref32. The law EncNew. -/
set_option linter.unusedSimpArgs false
set_option linter.unusedVariables false
namespace Go.Proofs.Lx
open Go.Vm
attribute [local irreducible] awpArr awpBin awpMake awpAppend awpCvX awpStrOf awpBinX awpSlice awpBS awpStore awpAlloc awpCopy awpIndex awpDraw awpIdxX awpFa awpField awpLookup awpUpdate awpDelete awpClear awpRange awpNext awpEntry awpBuild awpClearS awpIdxL awpTree appB awpIdxO eltA treeA
attribute [local irreducible] takeOne takeL
attribute [local irreducible] takeOf chargeOf chargeG docsPut
end Go.Proofs.Lx
/- The law EncNew. -/
set_option linter.unusedSimpArgs false
set_option linter.unusedVariables false
namespace Go.Proofs.Lx
open Go.Vm
attribute [local irreducible] awpArr awpBin awpMake awpAppend awpCvX awpStrOf awpBinX awpSlice awpBS awpStore awpAlloc awpCopy awpIndex awpDraw awpIdxX awpFa awpField awpLookup awpUpdate awpDelete awpClear awpRange awpNext awpEntry awpBuild awpClearS awpIdxL awpTree appB awpIdxO eltA treeA
set_option maxRecDepth 20000 in
set_option maxHeartbeats 1000000 in
theorem does_begunW32 : Does Tryz.prog 56 begunWSpec := by
  refine does_of_awp (good_cons does_vnewW (good_cons does_rNewW (good_cons does_yOpen (good_cons does_rOpen (good_cons does_tput (good_cons does_rtPut good_nil)))))) Tryz.func56 rfl (by decide +kernel) (by decide +kernel) ?_
  rintro args h Q ⟨l, hl, hok, rfl, hq⟩
  refine ⟨by simp [Tryz.f56], ?_⟩
  rw [awpFunc_some (by rfl)]
  simp -dsimp only [Vm.G, List.lookup, Nat.reduceAdd, Nat.reduceBEq, Int.reduceBNe, Int.reduceBEq, Nat.reduceLeDiff, q56]
  refine call_one (S := vnewWSpec) rfl _ GaL.rfl ⟨rfl, fun V h00 hV00 hm00 => ?_⟩
  simp -dsimp only [Vm.G, List.lookup, Nat.reduceAdd, Nat.reduceBEq, Int.reduceBNe, Int.reduceBEq, Nat.reduceLeDiff, q56]
  refine call_one (S := rNewWSpec) rfl _ (.cons (.nil 2) .nil) ⟨V, rfl, hV00, hm00, fun R h0 hB0 => ?_⟩
  clear hV00 hm00
  simp -dsimp only [Vm.G, List.lookup, Nat.reduceAdd, Nat.reduceBEq, Int.reduceBNe, Int.reduceBEq, Nat.reduceLeDiff, q56]
  refine call_one (S := yOpenSpec) rfl _ GaL.rfl ⟨V, noF, 2020, rfl, hB0.1.1, fun h1 g1 g2 => ?_⟩
  simp -dsimp only [Vm.G, List.lookup, Nat.reduceAdd, Nat.reduceBEq, Int.reduceBNe, Int.reduceBEq, Nat.reduceLeDiff, q56]
  refine call_one (S := rOpenSpec) rfl _ GaL.rfl ⟨R, noF, 2020, rfl, hB0.1.view g1 g2, by decide, fun h2 g3 g4 => ?_⟩
  have hB1 := hB0.step g1 g2 g3 g4
  clear hB0 g1 g2 g3 g4
  simp -dsimp only [Vm.G, List.lookup, Nat.reduceAdd, Nat.reduceBEq, Int.reduceBNe, Int.reduceBEq, Nat.reduceLeDiff, q56]
  refine awp_loop (fun m s h' => ∃ i : Nat, i + m = l.length ∧ BothW h' V R (begunF (l.take i)) noF ∧ s = mk [(4, .ptr V.iv 0), (5, .ptr R.iv 0), (14, .sl 12 (l.map ndAv)), (15, .v (.int .i64 l.length)), (16, .v (.int .i64 (i : Nat)))])
    l.length _ (le_mk _ ?_) ⟨0, by omega, hB1, rfl⟩ ?_
  · simp only [List.forall_mem_cons, List.not_mem_nil, false_imp_iff, implies_true, and_true]
    try simp -dsimp only [Vm.G, List.lookup, Nat.reduceAdd, Nat.reduceBEq, Int.reduceBNe, Int.reduceBEq, Nat.reduceLeDiff, q56]
    repeat' first | exact Fg.refl _ | exact Fg.nil _ _ _ (by decide) | refine And.intro ?_ ?_
  · clear hB1
    rintro m s h' ⟨i, hi, hB, rfl⟩
    simp -dsimp only [Vm.G, List.lookup, Nat.reduceAdd, Nat.reduceBEq, Int.reduceBNe, Int.reduceBEq, Nat.reduceLeDiff, q56]
    refine cond_intro (fun hcc => ?_) (fun hcc => ?_)
    · have hlt : i < l.length := by have := of_decide_eq_true hcc; omega
      have hw : IntKind.i64.wrap ((i : Int) + 1) = ((i + 1 : Nat) : Int) := by rw [wrap_i64 (by omega) (by omega)]; simp
      have hfn := begunF_n (l.take i)
      have htl : (l.take i).length ≤ i := by rw [List.length_take]; omega
      have est : begunF (l.take (i + 1)) = putN (begunF (l.take i)) l[i] := by
        unfold begunF
        rw [List.take_succ_eq_append_getElem hlt, List.foldl_append]; rfl
      have ho := hok l[i] (List.getElem_mem hlt)
      simp -dsimp only [Vm.G, List.lookup, Nat.reduceAdd, Nat.reduceBEq, Int.reduceBNe, Int.reduceBEq, Nat.reduceLeDiff, q56]
      refine idx_map ndAv l i hlt ?_
      generalize l[i] = n at est ho
      have hok2 : (yr20 n).ok := ⟨by show I64 2020; unfold I64; omega, ho.2⟩
      simp only [ndAv, ndCells]
      simp -dsimp only [Vm.G, List.lookup, Nat.reduceAdd, Nat.reduceBEq, Int.reduceBNe, Int.reduceBEq, Nat.reduceLeDiff, q56, AV.cells]
      refine call_one (S := tputSpec) rfl _ GaL.rfl ⟨V, begunF (l.take i), yr20 n, rfl, hok2, hB.1.1, fun h2 g1 g2 => ?_⟩
      simp -dsimp only [Vm.G, List.lookup, Nat.reduceAdd, Nat.reduceBEq, Int.reduceBNe, Int.reduceBEq, Nat.reduceLeDiff, q56]
      refine call_one (S := rtPutSpec) rfl _ GaL.rfl ⟨R, begunF (l.take i), yr20 n, rfl, hok2, hB.1.view g1 g2, by omega, fun h3 g3 g4 => ?_⟩
      have hB2 := hB.step g1 g2 g3 g4
      have hB2 : BothW h3 V R (begunF (l.take (i + 1))) noF := by rw [est]; exact hB2
      simp -dsimp only [Vm.G, List.lookup, Nat.reduceAdd, Nat.reduceBEq, Int.reduceBNe, Int.reduceBEq, Nat.reduceLeDiff, q56]
      refine kept_intro ⟨l.length - (i + 1), by omega, _, le_mk [(4, .ptr V.iv 0), (5, .ptr R.iv 0), (14, .sl 12 (l.map ndAv)), (15, .v (.int .i64 l.length)), (16, .v (.int .i64 (i + 1 : Nat)))] ?_, i + 1, by omega, hB2, rfl⟩
      simp only [List.forall_mem_cons, List.not_mem_nil, false_imp_iff, implies_true, and_true, hw]
      try simp -dsimp only [Vm.G, List.lookup, Nat.reduceAdd, Nat.reduceBEq, Int.reduceBNe, Int.reduceBEq, Nat.reduceLeDiff, q56, hw]
      repeat' first | exact Fg.refl _ | exact Fg.nil _ _ _ (by decide) | refine And.intro ?_ ?_
    · have hge : ¬ i < l.length := by have := of_decide_eq_false hcc; omega
      rw [List.take_of_length_le (by omega)] at hB
      simp -dsimp only [Vm.G, List.lookup, Nat.reduceAdd, Nat.reduceBEq, Int.reduceBNe, Int.reduceBEq, Nat.reduceLeDiff, q56]
      exact hq V R h' hB
def eb1 : Nd := { Nd.zero with id := 1, limit := 9, abs := true }
def eb2 : Ln := ⟨0, 0, 1, 9⟩
def eb3 : Ln := ⟨0, 0, 0, 4⟩
theorem eb_pre : (preNew (begunF [eb1]) 2020 [eb2]).2.1 = 1 := by decide +kernel
theorem eb_enc : (encNew (preNew (begunF [eb1]) 2020 [eb2]).1 2020 1 [eb3]).2 = (2, false, 0) := by decide +kernel
theorem eb_nd : (nodeAt (encNew (preNew (begunF [eb1]) 2020 [eb2]).1 2020 1 [eb3]).1 2020 1).map (fun n => (n.pre, n.enc)) = some (5, 4) := by decide +kernel
theorem eb1_ok : eb1.ok := by simp [Nd.ok, eb1, Nd.zero, I64]
theorem eb2_ok : eb2.ok := by simp [Ln.ok, eb2, I64]
theorem eb3_ok : eb3.ok := by simp [Ln.ok, eb3, I64]
set_option maxRecDepth 20000 in
set_option maxHeartbeats 1000000 in
theorem does_law32awake : Does Tryz.prog 55 trueSpec := by
  refine does_of_awp (good_cons does_begunW32 (good_cons does_preNew (good_cons does_encNew (good_cons does_tget good_nil)))) Tryz.func55 rfl (by decide +kernel) (by decide +kernel) ?_
  rintro args h Q ⟨rfl, hq⟩
  refine ⟨by simp [Tryz.f55], ?_⟩
  rw [awpFunc_some (by rfl)]
  simp -dsimp only [Vm.G, List.lookup, Nat.reduceAdd, Nat.reduceBEq, Int.reduceBNe, Int.reduceBEq, Nat.reduceLeDiff, q55]
  refine bs_intro zr93 (by decide) (by decide) rfl rfl (by simp [solid, AV.cells]) ?_
  simp -dsimp only [Vm.G, List.lookup, Nat.reduceAdd, Nat.reduceBEq, Int.reduceBNe, Int.reduceBEq, Nat.reduceLeDiff, q55]
  refine call_one (S := begunWSpec) rfl _ GaL.rfl ⟨[eb1], by simp, by simpa using eb1_ok, rfl, fun V R h1 hB => ?_⟩
  simp -dsimp only [Vm.G, List.lookup, Nat.reduceAdd, Nat.reduceBEq, Int.reduceBNe, Int.reduceBEq, Nat.reduceLeDiff, q55]
  refine nil_pointer Tryz.underlying24 ?_
  simp -dsimp only [Vm.G, List.lookup, Nat.reduceAdd, Nat.reduceBEq, Int.reduceBNe, Int.reduceBEq, Nat.reduceLeDiff, q55]
  refine bs_intro zr45 (by decide) (by decide) rfl rfl (by simp [solid, AV.cells]) ?_
  simp -dsimp only [Vm.G, List.lookup, Nat.reduceAdd, Nat.reduceBEq, Int.reduceBNe, Int.reduceBEq, Nat.reduceLeDiff, q55]
  refine call_one (S := preNewSpec) rfl _ GaL.rfl ⟨V, begunF [eb1], 2020, [eb2], by unfold I64; omega, by simp, by simpa using eb2_ok, rfl, hB.1.1, fun h2 g1 g2 => ?_⟩
  have e1 := eb_pre
  have e2 := eb_enc
  have e3 := eb_nd
  generalize preNew (begunF [eb1]) 2020 [eb2] = q at g1 e1 e2 e3 ⊢
  obtain ⟨qf, qi, qw, qe⟩ := q
  simp only at e1 e2 e3 g1 ⊢
  subst e1
  simp -dsimp only [Vm.G, List.lookup, Nat.reduceAdd, Nat.reduceBEq, Int.reduceBNe, Int.reduceBEq, Nat.reduceLeDiff, q55]
  refine bs_intro zr45 (by decide) (by decide) rfl rfl (by simp [solid, AV.cells]) ?_
  simp -dsimp only [Vm.G, List.lookup, Nat.reduceAdd, Nat.reduceBEq, Int.reduceBNe, Int.reduceBEq, Nat.reduceLeDiff, q55]
  refine call_one (S := encNewSpec) rfl _ GaL.rfl ⟨V, qf, 2020, 1, [eb3], by unfold I64; omega, by unfold I64; omega, by simp, by simpa using eb3_ok, rfl, g1, fun h3 k1 k2 => ?_⟩
  generalize encNew qf 2020 1 [eb3] = r at k1 e2 e3 ⊢
  obtain ⟨rf, ri, rw1, re⟩ := r
  simp only [Prod.mk.injEq] at e2
  obtain ⟨rfl, rfl, rfl⟩ := e2
  simp only at e3 k1 ⊢
  simp -dsimp only [Vm.G, List.lookup, Nat.reduceAdd, Nat.reduceBEq, Int.reduceBNe, Int.reduceBEq, Nat.reduceLeDiff, q55]
  refine call_one (S := tgetSpec) rfl _ GaL.rfl ⟨V, rf, 2020, 1, rfl, k1, fun n hn => ?_, fun hn => by rw [hn] at e3; cases e3⟩
  rw [hn] at e3
  have e4 : n.pre = 5 ∧ n.enc = 4 := by simpa using e3
  simp only [ndCells, e4.1, e4.2]
  simp -dsimp only [Vm.G, List.lookup, Nat.reduceAdd, Nat.reduceBEq, Int.reduceBNe, Int.reduceBEq, Nat.reduceLeDiff, q55]
  exact hq _
end Go.Proofs.Lx
/- Charges, and what nodes there are behind them: plain laws for CtrlHolds and EncNoMore. -/
set_option linter.unusedSimpArgs false
set_option linter.unusedVariables false
namespace Go.Proofs.Lx
open Go.Vm
attribute [local irreducible] awpArr awpBin awpMake awpAppend awpCvX awpStrOf awpBinX awpSlice awpBS awpStore awpAlloc awpCopy awpIndex awpDraw awpIdxX awpFa awpField awpLookup awpUpdate awpDelete awpClear awpRange awpNext awpEntry awpBuild awpClearS awpIdxL awpTree appB awpIdxO eltA treeA
theorem nodeOf_clamp {y i : Int} {v : List UInt8} {n : Nd} (h : nodeOf (keyOf 78 [y, i]) v = some n) : n.year = clampK y ∧ n.id = clampK i := by
  unfold nodeOf numsPair at h
  rw [splitOf_key 78 [y, i] (by simp)] at h
  simp only [List.map_cons, List.map_nil] at h
  split at h
  · cases h; exact ⟨rfl, rfl⟩
  · cases h
/-- What a node that is there tells of its key. -/
theorem nodeAt_some {f : Fun} {y i : Int} {n : Nd} (h : nodeAt f y i = some n) : n.year = y ∧ n.id = i ∧ InR y ∧ InR i ∧ ∃ v, f (ndK n) = some v ∧ nodeOf (ndK n) v = some n := by
  unfold nodeAt at h
  split at h
  · cases h
  · rename_i v hv
    split at h
    · rename_i m hm
      split at h
      · rename_i hc
        cases h
        obtain ⟨h1, h2⟩ := nodeOf_clamp hm
        have e : ndK n = keyOf 78 [y, i] := by unfold ndK ndKey; rw [hc.1, hc.2]
        have r1 := clampK_range y
        have r2 := clampK_range i
        rw [← h1, hc.1] at r1
        rw [← h2, hc.2] at r2
        exact ⟨hc.1, hc.2, r1, r2, v, by rw [e]; exact hv, by rw [e]; exact hm⟩
      · cases h
    · cases h
theorem pathOf_at (f : Fun) (y : Int) : ∀ (k : Nat) (i : Int), ∀ n ∈ pathOf f y k i, nodeAt f y n.id = some n
  | 0, i, n, hn => by simp [pathOf] at hn
  | k + 1, i, n, hn => by
    simp only [pathOf] at hn
    split at hn
    · cases hn
    · rename_i m hm
      rcases List.mem_cons.1 hn with rfl | hn
      · have := (nodeAt_some hm).2.1
        rw [this]; exact hm
      · split at hn
        · cases hn
        · exact pathOf_at f y k _ n hn
/-- A run that is done: what each key has, and what was so of each node. -/
theorem run_done (c : Chg) : ∀ (p : List Nd) (f : Fun) (w : Bool), (chargeRun c p f w).2.2 = 0 →
    (∀ n ∈ p, (atOf c n).2.2 = 0 ∧ ((atOf c n).2.1 = true → (chargeRun c p f w).2.1 = true)) ∧ (w = true → (chargeRun c p f w).2.1 = true) ∧
      ∀ k, (∃ n ∈ p, k = ndK n ∧ (chargeRun c p f w).1 k = some (ndV (addC c n))) ∨ ((∀ n ∈ p, k ≠ ndK n) ∧ (chargeRun c p f w).1 k = f k)
  | [], f, w, _ => ⟨by simp, fun h => h, fun k => .inr ⟨by simp, rfl⟩⟩
  | n :: r, f, w, h => by
    unfold chargeRun at h ⊢
    by_cases he : (atOf c n).2.2 ≠ 0
    · rw [if_pos he] at h
      exact absurd h he
    · rw [if_neg he] at h ⊢
      have he0 : (atOf c n).2.2 = 0 := by simpa using he
      have ha : (atOf c n).1 = addC c n := by
        revert he0
        unfold atOf
        repeat' split
        all_goals intro h9; first | rfl | (exfalso; simp at h9)
      obtain ⟨i1, i2, i3⟩ := run_done c r _ _ h
      rw [ha] at h i1 i2 i3 ⊢
      refine ⟨fun m hm => ?_, fun hw => i2 (by rw [hw]; rfl), fun k => ?_⟩
      · rcases List.mem_cons.1 hm with rfl | hm
        · exact ⟨he0, fun ht => i2 (by rw [ht]; cases w <;> rfl)⟩
        · exact i1 m hm
      · rcases i3 k with ⟨m, hm, e1, e2⟩ | ⟨e1, e2⟩
        · exact .inl ⟨m, List.mem_cons_of_mem _ hm, e1, e2⟩
        · by_cases hk : k = ndK n
          · refine .inl ⟨n, List.mem_cons_self .., hk, ?_⟩
            rw [e2, upd_app, if_pos]
            rw [hk]; rfl
          · refine .inr ⟨fun m hm => ?_, ?_⟩
            · rcases List.mem_cons.1 hm with rfl | hm
              · exact hk
              · exact e1 m hm
            · rw [e2, upd_app, if_neg]
              intro e; exact hk e
/-- How a node stands behind a charge that was done. -/
def ChgRel (c : Chg) (w : Bool) (n n' : Nd) : Prop := n' = n ∨ (n' = addC c n ∧ (atOf c n).2.2 = 0 ∧ ((atOf c n).2.1 = true → w = true))
inductive All2 (R : Nd → Nd → Prop) : List Nd → List Nd → Prop
  | nil : All2 R [] []
  | cons {a b : Nd} {l l' : List Nd} (h : R a b) (t : All2 R l l') : All2 R (a :: l) (b :: l')
theorem All2.len {R : Nd → Nd → Prop} : ∀ {l l' : List Nd}, All2 R l l' → l.length = l'.length
  | _, _, .nil => rfl
  | _, _, .cons _ t => by rw [List.length_cons, List.length_cons, t.len]
theorem All2.get {R : Nd → Nd → Prop} : ∀ {l l' : List Nd}, All2 R l l' → ∀ (i : Nat) (h1 : i < l.length) (h2 : i < l'.length), R l[i] l'[i]
  | _, _, .cons h _, 0, _, _ => h
  | _, _, .cons _ t, i + 1, h1, h2 => t.get i (by simpa using h1) (by simpa using h2)
theorem all_rel {Rel : Nd → Nd → Prop} {y : Int} {g : KV → KV} : ∀ (l : List KV), (∀ p ∈ l, (inYear y p = none ∧ inYear y (g p) = none) ∨ ∃ n n', inYear y p = some n ∧ inYear y (g p) = some n' ∧ Rel n n') → All2 Rel (allN y l) (allN y (l.map g))
  | [], _ => .nil
  | p :: l, h => by
    have ih := all_rel l fun q hq => h q (List.mem_cons_of_mem _ hq)
    show All2 Rel ((p :: l).filterMap (inYear y)) ((g p :: l.map g).filterMap (inYear y))
    rcases h p (List.mem_cons_self ..) with ⟨h1, h2⟩ | ⟨n, n', h1, h2, h3⟩
    · rw [List.filterMap_cons, List.filterMap_cons, h1, h2]; exact ih
    · rw [List.filterMap_cons, List.filterMap_cons, h1, h2]; exact .cons h3 ih
/-- What a scan tells behind a change of values alone. -/
theorem scan_map {f f' : Fun} {pre : List UInt8} {l : List KV} (h : ScanIs f pre l) (hd : ∀ k, (f' k).isSome = (f k).isSome) : ScanIs f' pre (l.map fun p => (p.1, (f' p.1).getD p.2)) := by
  refine ⟨?_, fun k v => ⟨fun hm => ?_, fun ⟨h1, h2⟩ => ?_⟩⟩
  · rw [List.pairwise_map]
    exact h.1
  · obtain ⟨p, hp, e⟩ := List.mem_map.1 hm
    cases e
    obtain ⟨g1, g2⟩ := (h.2 p.1 p.2).1 hp
    refine ⟨?_, g2⟩
    have := hd p.1
    rw [g1] at this
    cases hf : f' p.1 with
    | none => rw [hf] at this; cases this
    | some v => rfl
  · have := hd k
    rw [h1] at this
    cases hf : f k with
    | none => rw [hf] at this; cases this
    | some v0 =>
      refine List.mem_map.2 ⟨(k, v0), (h.2 k v0).2 ⟨hf, h2⟩, ?_⟩
      simp only [h1, Option.getD_some]
theorem addC_key (c : Chg) (n : Nd) : ndK (addC c n) = ndK n := rfl
theorem charge_rel {f : Fun} {y i : Int} {c : Chg} {l l' : List KV} (he : (chargeOf f y i c).2.2 = 0) (h : ScanIs f (keyOf 78 [y]) l) (h' : ScanIs (chargeOf f y i c).1 (keyOf 78 [y]) l') :
    chgRight c = true ∧ All2 (ChgRel c (chargeOf f y i c).2.1) (allN y l) (allN y l') := by
  have hat := pathOf_at f y 8 i
  have hok := pathOf_ok f y 8 i
  unfold chargeOf at he h' ⊢
  generalize pathOf f y 8 i = p at hat hok he h' ⊢
  by_cases h0 : p.length = 0
  · rw [if_pos h0] at he; simp at he
  · rw [if_neg h0] at he h' ⊢
    by_cases hr : chgRight c = false
    · rw [if_pos hr] at he; simp at he
    · rw [if_neg hr] at he h' ⊢
      obtain ⟨i1, -, i3⟩ := run_done c p f false he
      generalize chargeRun c p f false = q at he h' i1 i3 ⊢
      obtain ⟨f', w, e⟩ := q
      simp only at he h' i1 i3 ⊢
      refine ⟨by simpa using hr, ?_⟩
      have hkey : ∀ n ∈ p, ∃ v, f (ndK n) = some v ∧ nodeOf (ndK n) v = some n := fun n hn => (nodeAt_some (hat n hn)).2.2.2.2
      have hd : ∀ k, (f' k).isSome = (f k).isSome := fun k => by
        rcases i3 k with ⟨n, hn, rfl, e2⟩ | ⟨-, e2⟩
        · obtain ⟨v, hv, -⟩ := hkey n hn
          rw [e2, hv]; rfl
        · rw [e2]
      rw [h'.same (scan_map h hd)]
      refine all_rel l fun p0 hp0 => ?_
      obtain ⟨g1, g2⟩ := (h.2 p0.1 p0.2).1 hp0
      rcases i3 p0.1 with ⟨n, hn, e1, e2⟩ | ⟨-, e2⟩
      · obtain ⟨v, hv, hno⟩ := hkey n hn
        obtain ⟨a1, a2, a3, a4, -⟩ := nodeAt_some (hat n hn)
        rw [e1] at g1
        rw [g1] at hv
        cases hv
        refine .inr ⟨n, addC c n, ?_, ?_, .inr ⟨rfl, i1 n hn⟩⟩
        · unfold inYear
          rw [e1, hno]
          simp only
          rw [if_pos a1]
        · unfold inYear
          simp only [e2, Option.getD_some]
          rw [e1, ← addC_key c n, nodeOf_put (addC_ok c n (hok n hn)) (by show InR n.year; rw [a1]; exact a3) a4]
          simp only
          rw [if_pos (show (addC c n).year = y from a1)]
      · have eg : (p0.1, (f' p0.1).getD p0.2) = p0 := by rw [e2, g1]; rfl
        rw [eg]
        cases hi : inYear y p0 with
        | none => exact .inl ⟨rfl, rfl⟩
        | some n => exact .inr ⟨n, n, rfl, rfl, .inl rfl⟩
theorem figure_iff (n : Int) : figureP n = true ↔ 0 ≤ n ∧ n ≤ 1152921504606846976 := by simp [figureP]
theorem small_iff (n : Int) : smallP n = true ↔ -1152921504606846976 ≤ n ∧ n ≤ 1152921504606846976 := by simp [smallP]
theorem within_iff (n : Int) : withinP n = true ↔ -9007199254740992 ≤ n ∧ n ≤ 9007199254740992 := by simp [withinP]
theorem figs_iff (n : Nd) : figs n = true ↔ (0 ≤ n.pre ∧ n.pre ≤ 1152921504606846976) ∧ (0 ≤ n.enc ∧ n.enc ≤ 1152921504606846976) ∧ (0 ≤ n.exp ∧ n.exp ≤ 1152921504606846976) := by
  unfold figs
  rw [Bool.and_eq_true, Bool.and_eq_true, figure_iff, figure_iff, figure_iff, and_assoc]
theorem w64_id {n : Int} (h1 : -9223372036854775808 ≤ n) (h2 : n ≤ 9223372036854775807) : w64 n = n := wrap_i64 h1 h2
theorem used_figs {n : Nd} (h : figs n = true) : usedOf n = n.pre + n.enc + n.exp := by
  rw [figs_iff] at h
  unfold usedOf
  rw [w64_id (n := n.pre + n.enc) (by omega) (by omega), w64_id (by omega) (by omega)]
theorem chgRight_iff (c : Chg) : chgRight c = true ↔ (-9007199254740992 ≤ c.pre ∧ c.pre ≤ 9007199254740992) ∧ (-9007199254740992 ≤ c.enc ∧ c.enc ≤ 9007199254740992) ∧ (-9007199254740992 ≤ c.exp ∧ c.exp ≤ 9007199254740992) := by
  unfold chgRight
  rw [Bool.and_eq_true, Bool.and_eq_true, within_iff, within_iff, within_iff, and_assoc]
theorem sum_right {c : Chg} (h : chgRight c = true) : chgSum c = c.pre + c.enc + c.exp := by
  rw [chgRight_iff] at h
  unfold chgSum
  rw [w64_id (n := c.pre + c.enc) (by omega) (by omega), w64_id (by omega) (by omega)]
theorem addC_figs {c : Chg} {n : Nd} (hc : chgRight c = true) (hn : figs n = true) : (addC c n).pre = n.pre + c.pre ∧ (addC c n).enc = n.enc + c.enc ∧ (addC c n).exp = n.exp + c.exp := by
  rw [chgRight_iff] at hc
  rw [figs_iff] at hn
  refine ⟨?_, ?_, ?_⟩
  · exact w64_id (by omega) (by omega)
  · exact w64_id (by omega) (by omega)
  · exact w64_id (by omega) (by omega)
theorem at_done {c : Chg} {n : Nd} (h : (atOf c n).2.2 = 0) : figs n = true ∧ figs (addC c n) = true ∧ (allowsOf n (chgSum c)).1 = true ∧ (atOf c n).2.1 = (allowsOf n (chgSum c)).2 := by
  revert h
  unfold atOf
  by_cases h1 : figs n = false
  · rw [if_pos h1]; intro h; simp at h
  · rw [if_neg h1]
    by_cases h2 : figs (addC c n) = false
    · rw [if_pos h2]; intro h; simp at h
    · rw [if_neg h2]
      by_cases h3 : (allowsOf n (chgSum c)).1 = false
      · rw [if_pos h3]; intro h; simp at h
      · rw [if_neg h3]
        intro _
        exact ⟨by simpa using h1, by simpa using h2, by simpa using h3, rfl⟩
end Go.Proofs.Lx
/- What goes over from a pre-encumbrance: plain laws for EncNoMore. -/
set_option linter.unusedSimpArgs false
set_option linter.unusedVariables false
namespace Go.Proofs.Lx
open Go.Vm
attribute [local irreducible] awpArr awpBin awpMake awpAppend awpCvX awpStrOf awpBinX awpSlice awpBS awpStore awpAlloc awpCopy awpIndex awpDraw awpIdxX awpFa awpField awpLookup awpUpdate awpDelete awpClear awpRange awpNext awpEntry awpBuild awpClearS awpIdxL awpTree appB awpIdxO eltA treeA
theorem scan_congr {f f' : Fun} {pre : List UInt8} {l : List KV} (h : ScanIs f pre l) (he : ∀ k, pre.isPrefixOf k = true → f' k = f k) : ScanIs f' pre l :=
  ⟨h.1, fun k v => (h.2 k v).trans ⟨fun ⟨h1, h2⟩ => ⟨by rw [he k h2]; exact h1, h2⟩, fun ⟨h1, h2⟩ => ⟨by rw [← he k h2]; exact h1, h2⟩⟩⟩
theorem pre_head {t : UInt8} {l : List Int} {k : List UInt8} (h : (keyOf t l).isPrefixOf k = true) : ∃ r, k = t :: r := by
  unfold keyOf at h
  cases k with
  | nil => simp at h
  | cons a r =>
    simp only [List.isPrefixOf, Bool.and_eq_true, beq_iff_eq] at h
    exact ⟨r, by rw [h.1]⟩
/-- Nothing of a document stands under a key of another kind. -/
theorem docsF_other (f : Fun) (id : Int) (d : Dc) (l : List Dl) {k : List UInt8} (h1 : k ≠ dcK id) (h2 : ∀ j : Int, k ≠ dlK id j) (h3 : k ≠ seqKey 2) : docsF f id d l k = f k := by
  unfold docsF
  rw [upd_app, if_neg h1, putLines_other id l 0 _ k fun j _ => h2 _, upd_app, if_neg h3]
theorem docsF_node (f : Fun) (id : Int) (d : Dc) (l : List Dl) {y : Int} {k : List UInt8} (h : (keyOf 78 [y]).isPrefixOf k = true) : docsF f id d l k = f k := by
  obtain ⟨r, rfl⟩ := pre_head h
  have ne : ∀ {t : UInt8} {a : List Int}, t ≠ 78 → (78 :: r : List UInt8) ≠ keyOf t a := fun ht e => ht (List.cons.inj e).1.symm
  exact docsF_other f id d l (ne (by decide)) (fun j => ne (by decide)) (ne (by decide))
theorem upd_node (f : Fun) {q : List UInt8} {v : Option (List UInt8)} {t : UInt8} {a : List Int} (hq : q = keyOf t a) (ht : t ≠ 78) {y : Int} {k : List UInt8} (h : (keyOf 78 [y]).isPrefixOf k = true) : upd f q v k = f k := by
  obtain ⟨r, rfl⟩ := pre_head h
  rw [upd_app, if_neg]
  rw [hq]
  exact fun e => ht (List.cons.inj e).1.symm
theorem begunF_read {q : List UInt8} (hq : ∀ m : Nd, q ≠ ndK m) (l : List Nd) : readOf (begunF l) q = readOf (openOf noF 2020).1 q := by
  have : ∀ (l : List Nd) (f : Fun), readOf (l.foldl putN f) q = readOf f q := by
    intro l
    induction l with
    | nil => intro f; rfl
    | cons x r ih =>
      intro f
      rw [List.foldl_cons, ih]
      exact readOf_other (hq _)
  exact this l _
theorem begunF_seq (l : List Nd) : readOf (begunF l) (seqKey 2) = 0 := by
  rw [begunF_read (seq_nd 2), open20]
  unfold yrTurn
  rw [readOf_other (seq_yr 2 2020)]
  rfl
/-- A charge touches nodes alone. -/
theorem chargeOf_other {f : Fun} {y i : Int} {c : Chg} (he : (chargeOf f y i c).2.2 = 0) {k : List UInt8} (hk : ∀ m : Nd, k ≠ ndK m) : (chargeOf f y i c).1 k = f k := by
  unfold chargeOf at he ⊢
  split
  · rfl
  · rename_i h0
    rw [if_neg h0] at he
    split
    · rfl
    · rename_i h1
      rw [if_neg h1] at he
      obtain ⟨-, -, i3⟩ := run_done c _ f false he
      rcases i3 k with ⟨n, -, e, -⟩ | ⟨-, e⟩
      · exact absurd e (hk n)
      · exact e
theorem readOf_congr {f g : Fun} {k : List UInt8} (h : f k = g k) : readOf f k = readOf g k := by unfold readOf; rw [h]
theorem checkY_congr {f g : Fun} {y : Int} (h : f (yrK y) = g (yrK y)) : checkY f y = checkY g y := by unfold checkY stateOf; rw [readOf_congr h]
theorem docsF_head {g : Fun} {d : Dc} {l : List Dl} (hd : d.ok) (h1 : 1 ≤ l.length) (h6 : l.length ≤ 6) : docHead (docsF g 1 d l) 1 = some (dc1 d l) := by
  have e0 : docsF g 1 d l (dcK 1) = some (dcV (dc1 d l)) := by
    unfold docsF
    rw [upd_app, if_pos rfl]; rfl
  unfold docHead
  rw [e0, Option.bind_some]
  have := docOf_put (dc1_ok (l := l) hd h6) ⟨by show (0 : Int) ≤ 1; omega, by show (1 : Int) ≤ _; omega⟩
  have e : dcK (dc1 d l).id = dcK 1 := rfl
  rw [e] at this
  rw [this, Option.bind_some, if_pos]
  exact headOk_iff.2 ⟨rfl, by show 1 ≤ (l.length : Int); omega, by show (l.length : Int) ≤ 6; omega⟩
theorem docAt_one {f : Fun} {d : Dc} {x : Dl} (hh : docHead f 1 = some d) (hd : d.lines = 1) (hl : f (dlK 1 0) = some (dlV x)) (hx : x.ok) : docAt f 1 = some (d, [x]) := by
  have e : lineAt f 1 0 = some x := by
    unfold lineAt
    rw [hl, Option.bind_some]
    exact lineOf_put hx ⟨by omega, by omega⟩ ⟨by omega, by omega⟩
  unfold docAt
  rw [hh, Option.bind_some, hd]
  show (linesAt f 1 1).map _ = _
  have : linesAt f 1 1 = some [x] := by
    show (linesAt f 1 0).bind _ = _
    show (some []).bind (fun l => (lineAt f 1 ((0 : Nat) : Int)).map fun x => l ++ [x]) = _
    rw [Option.bind_some]
    show (lineAt f 1 0).map _ = _
    rw [e]; rfl
  rw [this]; rfl
theorem docHead_congr {f g : Fun} {i : Int} (h : f (dcK i) = g (dcK i)) : docHead f i = docHead g i := by unfold docHead; rw [h]
theorem docsF_line0 (g : Fun) (d : Dc) (x : Dl) : docsF g 1 d [x] (dlK 1 0) = some (dlV x) := by
  unfold docsF
  rw [upd_app, if_neg (show ¬ dlK 1 0 = dcK 1 from keyOf_tag (by decide))]
  show upd _ (dlK 1 ((0 : Nat) : Int)) _ _ = _
  rw [upd_app]
  exact if_pos rfl
theorem at_charged {f f' : Fun} {c : Chg} {p : List Nd} {y : Int} (hf' : ∀ k, (∃ n ∈ p, k = ndK n ∧ f' k = some (ndV (addC c n))) ∨ ((∀ n ∈ p, k ≠ ndK n) ∧ f' k = f k)) (hp : ∀ n ∈ p, nodeAt f y n.id = some n ∧ n.ok) {i : Int} {m : Nd} (hm : nodeAt f y i = some m) (hmp : m ∈ p) :
    nodeAt f' y i = some (addC c m) := by
  obtain ⟨a1, a2, a3, a4, v, a5, a6⟩ := nodeAt_some hm
  have hk : keyOf 78 [y, i] = ndK m := by unfold ndK ndKey; rw [a1, a2]
  rcases hf' (ndK m) with ⟨n, hn, e1, e2⟩ | ⟨e1, -⟩
  · have hnm : n = m := by
      have h1 := (hp n hn).1
      obtain ⟨b1, b2, b3, b4, -⟩ := nodeAt_some h1
      have : m.year = n.year ∧ m.id = n.id := (ndK_iff (m := n) (y := m.year) (i := m.id) (by rw [b1]; exact b3) b4 (by rw [a1]; exact a3) (by rw [a2]; exact a4)).1 e1
      have hid : n.id = i := by rw [← this.2, a2]
      rw [hid] at h1
      rw [hm] at h1
      exact (Option.some.inj h1).symm
    subst hnm
    unfold nodeAt
    rw [hk, e2]
    simp only
    rw [← addC_key c n, nodeOf_put (addC_ok c n (hp n hn).2) (by show InR n.year; rw [a1]; exact a3) (by show InR n.id; rw [a2]; exact a4)]
    simp only
    rw [if_pos ⟨a1, a2⟩]
  · exact absurd rfl (e1 m hmp)
theorem path_charged {f f' : Fun} {c : Chg} {p : List Nd} {y : Int} (hf' : ∀ k, (∃ n ∈ p, k = ndK n ∧ f' k = some (ndV (addC c n))) ∨ ((∀ n ∈ p, k ≠ ndK n) ∧ f' k = f k)) (hp : ∀ n ∈ p, nodeAt f y n.id = some n ∧ n.ok) :
    ∀ (k : Nat) (i : Int), (∀ n ∈ pathOf f y k i, n ∈ p) → (nodeAt f y i = none → nodeAt f' y i = none) → (∀ j, nodeAt f y j = none → nodeAt f' y j = none) → pathOf f' y k i = (pathOf f y k i).map (addC c)
  | 0, i, _, _, _ => rfl
  | k + 1, i, hs, hn, hall => by
    cases hm : nodeAt f y i with
    | none =>
      simp only [pathOf, hm, hn hm, List.map_nil]
    | some m =>
      have hmem : m ∈ pathOf f y (k + 1) i := by simp only [pathOf, hm]; exact List.mem_cons_self ..
      have := at_charged hf' hp hm (hs m hmem)
      simp only [pathOf, hm, this, List.map_cons]
      have epar : (addC c m).parent = m.parent := rfl
      rw [epar]
      by_cases h0 : m.parent = 0
      · rw [if_pos h0, if_pos h0]; rfl
      · rw [if_neg h0, if_neg h0]
        rw [path_charged hf' hp k m.parent (fun n hn2 => hs n (by simp only [pathOf, hm]; rw [if_neg h0]; exact List.mem_cons_of_mem _ hn2)) (hall _) hall]
theorem none_charged {f f' : Fun} {c : Chg} {p : List Nd} {y : Int} (hf' : ∀ k, (∃ n ∈ p, k = ndK n ∧ f' k = some (ndV (addC c n))) ∨ ((∀ n ∈ p, k ≠ ndK n) ∧ f' k = f k)) (hp : ∀ n ∈ p, nodeAt f y n.id = some n ∧ n.ok) (j : Int) (h : nodeAt f y j = none) : nodeAt f' y j = none := by
  cases hm : nodeAt f' y j with
  | none => rfl
  | some m =>
    obtain ⟨a1, a2, a3, a4, v, a5, a6⟩ := nodeAt_some hm
    rcases hf' (ndK m) with ⟨n, hn, e1, e2⟩ | ⟨-, e2⟩
    · have h1 := (hp n hn).1
      obtain ⟨b1, b2, b3, b4, -⟩ := nodeAt_some h1
      have : m.year = n.year ∧ m.id = n.id := (ndK_iff (m := n) (y := m.year) (i := m.id) (by rw [b1]; exact b3) b4 (by rw [a1]; exact a3) (by rw [a2]; exact a4)).1 e1
      rw [← this.2, a2, h] at h1
      cases h1
    · have hk : keyOf 78 [y, j] = ndK m := by unfold ndK ndKey; rw [a1, a2]
      rw [e2] at a5
      unfold nodeAt at h
      rw [hk, a5] at h
      simp only [a6] at h
      rw [if_pos ⟨a1, a2⟩] at h
      cases h
end Go.Proofs.Lx
/- What goes over from a pre-encumbrance: the plain law of EncNoMore. -/
set_option linter.unusedSimpArgs false
set_option linter.unusedVariables false
namespace Go.Proofs.Lx
open Go.Vm
attribute [local irreducible] awpArr awpBin awpMake awpAppend awpCvX awpStrOf awpBinX awpSlice awpBS awpStore awpAlloc awpCopy awpIndex awpDraw awpIdxX awpFa awpField awpLookup awpUpdate awpDelete awpClear awpRange awpNext awpEntry awpBuild awpClearS awpIdxL awpTree appB awpIdxO eltA treeA
theorem pre_one {f : Fun} {i A : Int} (hs : ∀ c, (chargeOf f 2020 i c).2.2 = 0 → readOf (chargeOf f 2020 i c).1 (seqKey 2) = 0) (h : (preNew f 2020 [⟨0, 0, i, A⟩]).2.2.2 = 0) :
    checkY f 2020 = 0 ∧ rightA A = true ∧ (chargeOf f 2020 i ⟨A, 0, 0⟩).2.2 = 0 ∧ (preNew f 2020 [⟨0, 0, i, A⟩]).1 = docsF (chargeOf f 2020 i ⟨A, 0, 0⟩).1 1 ⟨0, 1, 2020, 0, 0⟩ [⟨i, A, 0, 0⟩] ∧ (preNew f 2020 [⟨0, 0, i, A⟩]).2.1 = 1 := by
  by_cases h1 : checkY f 2020 ≠ 0
  · unfold preNew at h
    rw [if_pos h1] at h
    exact absurd h h1
  · by_cases h2 : preCheck [⟨0, 0, i, A⟩] ≠ 0
    · unfold preNew at h
      rw [if_neg h1, if_pos h2] at h
      exact absurd h h2
    · have hA : rightA A = true := by
        revert h2
        unfold preCheck
        cases hr : rightA A
        · simp [wrongL, hr]
        · intro _; rfl
      have hl : chargeL 2020 (ownL [⟨0, 0, i, A⟩]) f false = if (chargeOf f 2020 i ⟨A, 0, 0⟩).2.2 ≠ 0 then ((chargeOf f 2020 i ⟨A, 0, 0⟩).1, false, (chargeOf f 2020 i ⟨A, 0, 0⟩).2.2) else ((chargeOf f 2020 i ⟨A, 0, 0⟩).1, (false || (chargeOf f 2020 i ⟨A, 0, 0⟩).2.1), 0) := rfl
      by_cases he : (chargeOf f 2020 i ⟨A, 0, 0⟩).2.2 ≠ 0
      · rw [if_pos he] at hl
        unfold preNew at h
        rw [if_neg h1, if_neg h2, hl] at h
        simp only at h
        rw [if_pos he] at h
        exact absurd h he
      · have he0 : (chargeOf f 2020 i ⟨A, 0, 0⟩).2.2 = 0 := by simpa using he
        have hr := hs _ he0
        rw [if_neg he] at hl
        have hd : docsPut (chargeOf f 2020 i ⟨A, 0, 0⟩).1 ⟨0, 1, 2020, 0, 0⟩ (ownL [⟨0, 0, i, A⟩]) = (docsF (chargeOf f 2020 i ⟨A, 0, 0⟩).1 1 ⟨0, 1, 2020, 0, 0⟩ [⟨i, A, 0, 0⟩], 1, 0) := by
          unfold docsPut
          rw [if_neg (by simp [ownL]), if_neg (by rw [hr]; omega), hr]
          rfl
        have e : (preNew f 2020 [⟨0, 0, i, A⟩]).1 = docsF (chargeOf f 2020 i ⟨A, 0, 0⟩).1 1 ⟨0, 1, 2020, 0, 0⟩ [⟨i, A, 0, 0⟩] ∧ (preNew f 2020 [⟨0, 0, i, A⟩]).2.1 = 1 := by
          unfold preNew
          rw [if_neg h1, if_neg h2, hl]
          simp only
          rw [if_neg (by simp), hd]
          exact ⟨rfl, rfl⟩
        exact ⟨by simpa using h1, hA, he0, e.1, e.2⟩
def tkF (g : Fun) (i A n : Int) : Fun := upd g (dlK 1 0) (some (dlV ⟨i, A, n, 0⟩))
theorem enc_one {g : Fun} {i A n : Int} (hy : checkY g 2020 = 0) (hd : docAt g 1 = some (⟨1, 1, 2020, 0, 1⟩, [⟨i, A, 0, 0⟩])) (h1 : 1 ≤ n) (h2 : n ≤ A) (h3 : A ≤ 4294967296)
    (hs : (chargeOf (tkF g i A n) 2020 i ⟨-n, n, 0⟩).2.2 = 0 → readOf (chargeOf (tkF g i A n) 2020 i ⟨-n, n, 0⟩).1 (seqKey 2) = 1) :
    ((chargeOf (tkF g i A n) 2020 i ⟨-n, n, 0⟩).2.2 ≠ 0 ∧ (encNew g 2020 1 [⟨0, 0, 0, n⟩]).2.2.2 = (chargeOf (tkF g i A n) 2020 i ⟨-n, n, 0⟩).2.2) ∨
    ((chargeOf (tkF g i A n) 2020 i ⟨-n, n, 0⟩).2.2 = 0 ∧ encNew g 2020 1 [⟨0, 0, 0, n⟩] = (docsF (chargeOf (tkF g i A n) 2020 i ⟨-n, n, 0⟩).1 2 ⟨0, 2, 2020, 1, 0⟩ [⟨i, n, 0, 0⟩], 2, (chargeOf (tkF g i A n) 2020 i ⟨-n, n, 0⟩).2.1, 0)) := by
  have hc : preCheck [⟨0, 0, 0, n⟩] = 0 := by
    have hw : wrongL ⟨0, 0, 0, n⟩ = false := by simp [wrongL, rightA]; omega
    unfold preCheck
    simp [hw]
  have ho : openD ⟨i, A, 0, 0⟩ = A := by
    show w64 (A - w64 (0 + 0)) = A
    rw [w64_id (n := 0 + 0) (by omega) (by omega), w64_id (by omega) (by omega)]
    omega
  have ht : takeOne g 1 ⟨0, 0, 0, n⟩ = (tkF g i A n, ⟨i, n, 0, 0⟩, 0) := by
    unfold takeOne
    rw [if_neg (by show ¬ (0 : Int) < 0; omega), ownAt_some hd]
    show (if openD ⟨i, A, 0, 0⟩ < n then _ else _) = _
    rw [if_neg (by rw [ho]; omega)]
    show (upd g (dlK 1 0) (some (dlV ⟨i, A, w64 (0 + n), 0⟩)), _, _) = _
    rw [w64_id (n := 0 + n) (by omega) (by omega), Int.zero_add]
    rfl
  have hl : linesFrom g 2020 1 [⟨0, 0, 0, n⟩] = (tkF g i A n, [⟨i, n, 0, 0⟩], 0) := by
    unfold linesFrom
    rw [if_pos (by decide)]
    unfold takeOf
    rw [hd]
    simp only
    rw [if_neg (by decide), takeL_cons, ht]
    simp only
    rw [if_neg (by simp)]
    rfl
  have hm : mkE 1 ⟨i, n, 0, 0⟩ = ⟨-n, n, 0⟩ := by
    show (⟨w64 (0 - n), n, 0⟩ : Chg) = _
    rw [w64_id (n := 0 - n) (by omega) (by omega), Int.zero_sub]
  have hg : chargeG (mkE 1) 2020 [⟨i, n, 0, 0⟩] (tkF g i A n) false = if (chargeOf (tkF g i A n) 2020 i ⟨-n, n, 0⟩).2.2 ≠ 0 then ((chargeOf (tkF g i A n) 2020 i ⟨-n, n, 0⟩).1, false, (chargeOf (tkF g i A n) 2020 i ⟨-n, n, 0⟩).2.2) else ((chargeOf (tkF g i A n) 2020 i ⟨-n, n, 0⟩).1, (false || (chargeOf (tkF g i A n) 2020 i ⟨-n, n, 0⟩).2.1), 0) := by
    rw [chargeG_cons, hm]
    rfl
  by_cases he : (chargeOf (tkF g i A n) 2020 i ⟨-n, n, 0⟩).2.2 ≠ 0
  · rw [if_pos he] at hg
    refine .inl ⟨he, ?_⟩
    unfold encNew
    rw [if_neg (by rw [hy]; decide), if_neg (by rw [hc]; decide), hl]
    simp only
    rw [if_neg (by simp), hg]
    simp only
    rw [if_pos he]
  · have he0 : (chargeOf (tkF g i A n) 2020 i ⟨-n, n, 0⟩).2.2 = 0 := by simpa using he
    have hr := hs he0
    rw [if_neg he] at hg
    refine .inr ⟨he0, ?_⟩
    have hp : docsPut (chargeOf (tkF g i A n) 2020 i ⟨-n, n, 0⟩).1 ⟨0, 2, 2020, 1, 0⟩ [⟨i, n, 0, 0⟩] = (docsF (chargeOf (tkF g i A n) 2020 i ⟨-n, n, 0⟩).1 2 ⟨0, 2, 2020, 1, 0⟩ [⟨i, n, 0, 0⟩], 2, 0) := by
      unfold docsPut
      rw [if_neg (by simp), if_neg (by rw [hr]; omega), hr]
      rfl
    unfold encNew
    rw [if_neg (by rw [hy]; decide), if_neg (by rw [hc]; decide), hl]
    simp only
    rw [if_neg (by simp), hg]
    simp only
    rw [if_neg (by simp), hp]
    simp
theorem run_err (c : Chg) : ∀ (p : List Nd) (f : Fun) (w : Bool), (chargeRun c p f w).2.2 ≠ 0 → ∃ n ∈ p, (atOf c n).2.2 = (chargeRun c p f w).2.2
  | [], f, w, h => absurd rfl h
  | n :: r, f, w, h => by
    unfold chargeRun at h ⊢
    by_cases he : (atOf c n).2.2 ≠ 0
    · rw [if_pos he]
      exact ⟨n, List.mem_cons_self .., rfl⟩
    · rw [if_neg he] at h ⊢
      obtain ⟨m, hm, e⟩ := run_err c r _ _ h
      exact ⟨m, List.mem_cons_of_mem _ hm, e⟩
theorem run_quiet (c : Chg) : ∀ (p : List Nd) (f : Fun), (∀ n ∈ p, (atOf c n).2.2 = 0 → (atOf c n).2.1 = false) → (chargeRun c p f false).2.1 = false
  | [], f, h => rfl
  | n :: r, f, h => by
    unfold chargeRun
    by_cases he : (atOf c n).2.2 ≠ 0
    · rw [if_pos he]
    · rw [if_neg he, h n (List.mem_cons_self ..) (by simpa using he)]
      exact run_quiet c r _ fun m hm => h m (List.mem_cons_of_mem _ hm)
/-- What a going over is at a node that was charged before. -/
theorem at_over {A n : Int} {m : Nd} (h1 : 1 ≤ n) (h2 : n ≤ A) (h3 : A ≤ 4294967296) (hm : (atOf ⟨A, 0, 0⟩ m).2.2 = 0) :
    ((atOf ⟨-n, n, 0⟩ (addC ⟨A, 0, 0⟩ m)).2.1 = false ∧ (atOf ⟨-n, n, 0⟩ (addC ⟨A, 0, 0⟩ m)).2.2 = 0) ∨ (atOf ⟨-n, n, 0⟩ (addC ⟨A, 0, 0⟩ m)).2.2 = 9 ∨ ((atOf ⟨-n, n, 0⟩ (addC ⟨A, 0, 0⟩ m)).2.2 = 11 ∧ usedOf (addC ⟨A, 0, 0⟩ m) > 1152921504606846976) := by
  obtain ⟨f1, f2, f3, -⟩ := at_done hm
  have hr : chgRight ⟨-n, n, 0⟩ = true := (chgRight_iff _).2 ⟨⟨by show -9007199254740992 ≤ -n; omega, by show -n ≤ 9007199254740992; omega⟩, ⟨by show -9007199254740992 ≤ n; omega, by show n ≤ 9007199254740992; omega⟩, ⟨by show (-9007199254740992 : Int) ≤ 0; decide, by show (0 : Int) ≤ 9007199254740992; decide⟩⟩
  have hs : chgSum ⟨-n, n, 0⟩ = 0 := by rw [sum_right hr]; show -n + n + 0 = 0; omega
  have hlim : smallP (addC ⟨A, 0, 0⟩ m).limit = true := by
    show smallP m.limit = true
    unfold allowsOf at f3
    split at f3
    · simp at f3
    · rename_i c1
      exact (Classical.byContradiction fun hc => c1 (.inr hc) : smallP (usedOf m) = true ∧ smallP m.limit = true).2
  generalize addC ⟨A, 0, 0⟩ m = q at f2 hlim ⊢
  unfold atOf
  rw [if_neg (by rw [f2]; decide)]
  by_cases h4 : figs (addC ⟨-n, n, 0⟩ q) = false
  · rw [if_pos h4]; exact .inr (.inl rfl)
  · rw [if_neg h4, hs]
    have hu := used_figs f2
    rw [figs_iff] at f2
    by_cases h5 : usedOf q > 1152921504606846976
    · have ha : allowsOf q 0 = (false, false) := by
        unfold allowsOf
        rw [if_pos (.inr fun hc => by have := (small_iff _).1 hc.1; omega)]
      rw [ha]
      exact .inr (.inr ⟨rfl, h5⟩)
    · have ha : allowsOf q 0 = (true, false) := by
        unfold allowsOf
        rw [if_neg (fun hc => hc.elim (by omega) fun hc => hc ⟨(small_iff _).2 ⟨by omega, by omega⟩, hlim⟩), if_pos (.inl (by omega))]
      rw [ha]
      exact .inl ⟨rfl, rfl⟩
theorem All2.imp {R S : Nd → Nd → Prop} (h : ∀ a b, R a b → S a b) : ∀ {l l' : List Nd}, All2 R l l' → All2 S l l'
  | _, _, .nil => .nil
  | _, _, .cons x t => .cons (h _ _ x) (t.imp h)
theorem used_over {n : Int} (hr : chgRight ⟨-n, n, 0⟩ = true) {w : Bool} {a b : Nd} (h : ChgRel ⟨-n, n, 0⟩ w a b) : usedOf b = usedOf a := by
  rcases h with rfl | ⟨rfl, h, -⟩
  · rfl
  · obtain ⟨f1, f2, -⟩ := at_done h
    obtain ⟨a1, a2, a3⟩ := addC_figs hr f1
    rw [used_figs f1, used_figs f2, a1, a2, a3]
    show a.pre + -n + (a.enc + n) + (a.exp + 0) = _
    omega
theorem pathOf_congr {f g : Fun} {y : Int} (h : ∀ i, f (keyOf 78 [y, i]) = g (keyOf 78 [y, i])) : ∀ (k : Nat) (i : Int), pathOf f y k i = pathOf g y k i
  | 0, _ => rfl
  | k + 1, i => by
    have e : nodeAt f y i = nodeAt g y i := by unfold nodeAt; rw [h]
    simp only [pathOf, e]
    cases nodeAt g y i with
    | none => rfl
    | some n =>
      simp only
      rw [pathOf_congr h k]
theorem pre_node (y i : Int) : (keyOf 78 [y]).isPrefixOf (keyOf 78 [y, i]) = true := by
  rw [List.isPrefixOf_iff_prefix]
  refine ⟨be 4 (clampK i), ?_⟩
  simp [keyOf, packs]
theorem node_listed {f : Fun} {y i : Int} {m : Nd} {l : List KV} (hl : ScanIs f (keyOf 78 [y]) l) (hm : nodeAt f y i = some m) : m ∈ allN y l := by
  obtain ⟨a1, a2, a3, a4, v, a5, a6⟩ := nodeAt_some hm
  refine List.mem_filterMap.2 ⟨(ndK m, v), (hl.2 _ _).2 ⟨a5, ?_⟩, ?_⟩
  · have hk : ndK m = keyOf 78 [y, i] := by unfold ndK ndKey; rw [a1, a2]
    rw [hk]; exact pre_node y i
  · unfold inYear
    simp only [a6]
    rw [if_pos a1]
theorem nd_ne {t : UInt8} {a : List Int} (ht : t ≠ 78) (m : Nd) : keyOf t a ≠ ndK m := keyOf_tag ht
theorem enc_nomore {l : List Nd} {i A n : Int} (hi : I64 i) (h1 : 1 ≤ n) (h2 : n ≤ A) (h3 : A ≤ 4294967296) (h : (preNew (begunF l) 2020 [⟨0, 0, i, A⟩]).2.2.2 = 0) :
    (preNew (begunF l) 2020 [⟨0, 0, i, A⟩]).2.1 = 1 ∧ ∀ g, (preNew (begunF l) 2020 [⟨0, 0, i, A⟩]).1 = g → ∀ kv, ScanIs g (keyOf 78 [2020]) kv →
      (encNew g 2020 1 [⟨0, 0, 0, n⟩]).2.2.2 = 9 ∨ ((encNew g 2020 1 [⟨0, 0, 0, n⟩]).2.2.2 = 11 ∧ (allN 2020 kv).any (fun m => decide (usedOf m > 1152921504606846976)) = true) ∨
      ((encNew g 2020 1 [⟨0, 0, 0, n⟩]).2.2 = (false, 0) ∧ (∀ kv2, ScanIs (encNew g 2020 1 [⟨0, 0, 0, n⟩]).1 (keyOf 78 [2020]) kv2 → All2 (fun a b => usedOf b = usedOf a) (allN 2020 kv) (allN 2020 kv2)) ∧
        docAt (encNew g 2020 1 [⟨0, 0, 0, n⟩]).1 1 = some (⟨1, 1, 2020, 0, 1⟩, [⟨i, A, n, 0⟩])) := by
  obtain ⟨hy, hA, he, hg, hid⟩ := pre_one (fun c hc => by
    rw [readOf_congr (chargeOf_other hc (k := seqKey 2) (seq_nd 2)), begunF_seq]) h
  refine ⟨hid, ?_⟩
  rw [hg]
  have hok : I64 A := by unfold I64; omega
  have hz : I64 0 := by unfold I64; omega
  have hn64 : I64 n := by unfold I64; omega
  have hat := pathOf_at (begunF l) 2020 8 i
  have hpo := pathOf_ok (begunF l) 2020 8 i
  have hoth : ∀ k, (∀ m : Nd, k ≠ ndK m) → (chargeOf (begunF l) 2020 i ⟨A, 0, 0⟩).1 k = begunF l k := fun k hk => chargeOf_other he hk
  -- the charge that was done
  have hrun : (pathOf (begunF l) 2020 8 i).length ≠ 0 ∧ chargeRun ⟨A, 0, 0⟩ (pathOf (begunF l) 2020 8 i) (begunF l) false = chargeOf (begunF l) 2020 i ⟨A, 0, 0⟩ := by
    by_cases hl0 : (pathOf (begunF l) 2020 8 i).length = 0
    · unfold chargeOf at he
      rw [if_pos hl0] at he; simp at he
    · by_cases hr : chgRight ⟨A, 0, 0⟩ = false
      · unfold chargeOf at he
        rw [if_neg hl0, if_pos hr] at he; simp at he
      · refine ⟨hl0, ?_⟩
        unfold chargeOf
        rw [if_neg hl0, if_neg hr]
  obtain ⟨hp0, hrun⟩ := hrun
  rw [← hrun] at he hoth ⊢
  obtain ⟨i1, -, i3⟩ := run_done _ _ _ _ he
  generalize hq : (chargeRun ⟨A, 0, 0⟩ (pathOf (begunF l) 2020 8 i) (begunF l) false).1 = q at i3 hoth ⊢
  have hpath : pathOf q 2020 8 i = (pathOf (begunF l) 2020 8 i).map (addC ⟨A, 0, 0⟩) :=
    path_charged i3 (fun m hm => ⟨hat m hm, hpo m hm⟩) 8 i (fun m hm => hm) (none_charged i3 (fun m hm => ⟨hat m hm, hpo m hm⟩) i) (none_charged i3 fun m hm => ⟨hat m hm, hpo m hm⟩)
  intro g hge kv hkv
  have hgk : ∀ (t : UInt8) (a : List Int), t ≠ 78 → t ≠ 68 → t ≠ 76 → keyOf t a ≠ seqKey 2 → g (keyOf t a) = begunF l (keyOf t a) := fun t a t1 t2 t3 t4 => by
    rw [← hge, docsF_other q 1 _ _ (keyOf_tag t2) (fun j => keyOf_tag t3) t4]
    exact hoth _ (nd_ne t1)
  have hgn : ∀ j, g (keyOf 78 [2020, j]) = q (keyOf 78 [2020, j]) := fun j => by
    rw [← hge]
    exact docsF_node q 1 _ _ (pre_node 2020 j)
  have hdok : Dc.ok ⟨0, 1, 2020, 0, 0⟩ := by simp [Dc.ok, I64]
  have hx0 : Dl.ok ⟨i, A, 0, 0⟩ := ⟨hi, hok, hz, hz⟩
  have hhead : docHead g 1 = some ⟨1, 1, 2020, 0, 1⟩ := by
    rw [← hge]
    exact docsF_head hdok (by simp) (by simp)
  have hdoc : docAt g 1 = some (⟨1, 1, 2020, 0, 1⟩, [⟨i, A, 0, 0⟩]) := docAt_one hhead rfl (by rw [← hge]; exact docsF_line0 q _ _) hx0
  have hyg : checkY g 2020 = 0 := by
    rw [checkY_congr (g := begunF l) (hgk 89 [2020] (by decide) (by decide) (by decide) (seq_yr 2 2020).symm)]
    exact hy
  have hsg : readOf g (seqKey 2) = 1 := by
    rw [← hge]
    unfold docsF
    rw [readOf_other (k := dcK 1) (k' := seqKey 2) (keyOf_tag (by decide))]
    show readOf (upd _ (dlK 1 0) _) _ = 1
    rw [readOf_other (k := dlK 1 0) (k' := seqKey 2) (keyOf_tag (by decide)), readOf_upd _ _ _ _ (by unfold I64; omega), if_pos rfl]
  have hts : readOf (tkF g i A n) (seqKey 2) = 1 := by
    unfold tkF
    rw [readOf_other (k := dlK 1 0) (k' := seqKey 2) (keyOf_tag (by decide)), hsg]
  have hpt : pathOf (tkF g i A n) 2020 8 i = (pathOf (begunF l) 2020 8 i).map (addC ⟨A, 0, 0⟩) := by
    rw [← hpath]
    refine pathOf_congr (fun j => ?_) 8 i
    unfold tkF
    rw [upd_app, if_neg (show ¬ keyOf 78 [2020, j] = dlK 1 0 from keyOf_tag (by decide)), hgn]
  have hr : chgRight ⟨-n, n, 0⟩ = true := (chgRight_iff _).2 ⟨⟨by show -9007199254740992 ≤ -n; omega, by show -n ≤ 9007199254740992; omega⟩, ⟨by show -9007199254740992 ≤ n; omega, by show n ≤ 9007199254740992; omega⟩, ⟨by show (-9007199254740992 : Int) ≤ 0; decide, by show (0 : Int) ≤ 9007199254740992; decide⟩⟩
  have hch : chargeOf (tkF g i A n) 2020 i ⟨-n, n, 0⟩ = chargeRun ⟨-n, n, 0⟩ ((pathOf (begunF l) 2020 8 i).map (addC ⟨A, 0, 0⟩)) (tkF g i A n) false := by
    unfold chargeOf
    rw [hpt, if_neg (by rw [List.length_map]; exact hp0), if_neg (by rw [hr]; decide)]
  have hover : ∀ m ∈ (pathOf (begunF l) 2020 8 i).map (addC ⟨A, 0, 0⟩), ((atOf ⟨-n, n, 0⟩ m).2.1 = false ∧ (atOf ⟨-n, n, 0⟩ m).2.2 = 0) ∨ (atOf ⟨-n, n, 0⟩ m).2.2 = 9 ∨ ((atOf ⟨-n, n, 0⟩ m).2.2 = 11 ∧ usedOf m > 1152921504606846976) := fun m hm => by
    obtain ⟨m0, hm0, rfl⟩ := List.mem_map.1 hm
    exact at_over h1 h2 h3 (i1 m0 hm0).1
  have hkt : ScanIs (tkF g i A n) (keyOf 78 [2020]) kv := scan_congr hkv fun k hk => upd_node g (q := dlK 1 0) (t := 76) (a := [1, 0]) rfl (by decide) hk
  have hts2 : (chargeOf (tkF g i A n) 2020 i ⟨-n, n, 0⟩).2.2 = 0 → readOf (chargeOf (tkF g i A n) 2020 i ⟨-n, n, 0⟩).1 (seqKey 2) = 1 := fun hz => by
    rw [readOf_congr (chargeOf_other hz (k := seqKey 2) (seq_nd 2)), hts]
  rcases enc_one hyg hdoc h1 h2 h3 hts2 with ⟨e1, e2⟩ | ⟨e1, e2⟩
  · rw [hch] at e1 e2
    obtain ⟨m, hm, hme⟩ := run_err _ _ _ _ e1
    rw [e2, ← hme]
    rcases hover m hm with ⟨-, h0⟩ | h9 | ⟨h11, hu⟩
    · rw [h0] at hme; exact absurd hme.symm e1
    · exact .inl h9
    · refine .inr (.inl ⟨h11, List.any_eq_true.2 ⟨m, ?_, decide_eq_true hu⟩⟩)
      rw [← hpath] at hm
      have hmq := pathOf_at q 2020 8 i m hm
      have hmg : nodeAt g 2020 m.id = some m := by
        rw [← hmq]; unfold nodeAt; rw [hgn]
      exact node_listed hkv hmg
  · have hw : (chargeOf (tkF g i A n) 2020 i ⟨-n, n, 0⟩).2.1 = false := by
      rw [hch]
      refine run_quiet _ _ _ fun m hm h0 => ?_
      rcases hover m hm with ⟨hf, -⟩ | h9 | ⟨h11, -⟩
      · exact hf
      · rw [h9] at h0; simp at h0
      · rw [h11] at h0; simp at h0
    rw [e2]
    refine .inr (.inr ⟨by rw [hw], fun kv2 hk2 => ?_, ?_⟩)
    · have hk3 : ScanIs (chargeOf (tkF g i A n) 2020 i ⟨-n, n, 0⟩).1 (keyOf 78 [2020]) kv2 := scan_congr hk2 fun k hk => (docsF_node _ 2 _ _ hk).symm
      obtain ⟨-, ha⟩ := charge_rel e1 hkt hk3
      exact All2.imp (fun a b hab => used_over hr hab) ha
    · have hk : ∀ (t : UInt8) (a : List Int), t ≠ 78 → keyOf t a ≠ dcK 2 → (∀ j : Int, keyOf t a ≠ dlK 2 j) → keyOf t a ≠ seqKey 2 → docsF (chargeOf (tkF g i A n) 2020 i ⟨-n, n, 0⟩).1 2 ⟨0, 2, 2020, 1, 0⟩ [⟨i, n, 0, 0⟩] (keyOf t a) = tkF g i A n (keyOf t a) := fun t a t1 t2 t3 t4 => by
        rw [docsF_other _ 2 _ _ t2 t3 t4]
        exact chargeOf_other e1 (nd_ne t1)
      have hin : InR 1 ∧ InR 2 := ⟨⟨by omega, by omega⟩, ⟨by omega, by omega⟩⟩
      have n12 : dcK 1 ≠ dcK 2 := fun e => by
        have := (key_inj (by simp) (by simp) e).2
        simp [clampK] at this
      have l12 : ∀ j : Int, dlK 1 0 ≠ dlK 2 j := fun j e => by
        have := (key_inj (by simp) (by simp) e).2
        simp [clampK] at this
      refine docAt_one ?_ rfl ?_ ⟨hi, hok, hn64, hz⟩
      · refine (docHead_congr (g := g) ?_).trans hhead
        refine (hk 68 [1] (by decide) n12 (fun j => keyOf_tag (by decide)) (keyOf_tag (by decide))).trans ?_
        unfold tkF
        rw [upd_app, if_neg (show ¬ keyOf 68 [1] = dlK 1 0 from keyOf_tag (by decide))]
        rfl
      · refine (hk 76 [1, 0] (by decide) (keyOf_tag (by decide)) l12 (keyOf_tag (by decide))).trans ?_
        unfold tkF
        rw [upd_app]
        exact if_pos rfl
end Go.Proofs.Lx
/- The law EncNoMore. -/
set_option linter.unusedSimpArgs false
set_option linter.unusedVariables false
namespace Go.Proofs.Lx
open Go.Vm
attribute [local irreducible] awpArr awpBin awpMake awpAppend awpCvX awpStrOf awpBinX awpSlice awpBS awpStore awpAlloc awpCopy awpIndex awpDraw awpIdxX awpFa awpField awpLookup awpUpdate awpDelete awpClear awpRange awpNext awpEntry awpBuild awpClearS awpIdxL awpTree appB awpIdxO eltA treeA
def askNd (p : Nd → Bool) : Vm.Spec := fun args h Q => ∃ x : Nd, args = [ndAv x] ∧ Q (.v (.bool (p x))) h
def ixSpecNd (T : Tab) : Vm.Spec := fun args h Q => ∃ (g : FuncId) (p : Nd → Bool) (l : List Nd), T g = some (askNd p) ∧ l.length ≤ 9223372036854775807 ∧ args = [.sl 12 (l.map ndAv), .clo g []] ∧ ∀ i : Int, (l.any p = true ↔ 0 ≤ i) → Q (.v (.int .i64 i)) h
theorem does_ixNd {T : Tab} (hT : Good T) : Does Tryz.prog 137 (ixSpecNd T) := by
  refine does_of_awp hT Tryz.func137 rfl (by decide +kernel) (by decide +kernel) ?_
  rintro args h Q ⟨g, p, l, hg, hl, rfl, hq⟩
  refine ⟨by simp [Tryz.f137], ?_⟩
  rw [awpFunc_some (by rfl)]
  simp -dsimp only [Vm.G, List.lookup, Nat.reduceAdd, Nat.reduceBEq, Int.reduceBNe, Int.reduceBEq, Nat.reduceLeDiff, q137]
  refine awp_loop (fun m s h' => ∃ i : Nat, i + m = l.length ∧ h' = h ∧ (∀ j (hj : j < l.length), j < i → p l[j] = false) ∧ s = mk [(0, .sl 12 (l.map ndAv)), (1, .clo g []), (7, .v (.int .i64 l.length)), (8, .v (.int .i64 i))])
    l.length _ (le_mk _ ?_) ⟨0, by omega, rfl, fun j _ hj => by omega, rfl⟩ ?_
  · simp only [List.forall_mem_cons, List.not_mem_nil, false_imp_iff, implies_true, and_true]
    try simp -dsimp only [Vm.G, List.lookup, Nat.reduceAdd, Nat.reduceBEq, Int.reduceBNe, Int.reduceBEq, Nat.reduceLeDiff, q137]
    repeat' first | exact Fg.refl _ | exact Fg.nil _ _ _ (by decide) | refine And.intro ?_ ?_
  · rintro m s h' ⟨i, hi, rfl, hb, rfl⟩
    simp -dsimp only [Vm.G, List.lookup, Nat.reduceAdd, Nat.reduceBEq, Int.reduceBNe, Int.reduceBEq, Nat.reduceLeDiff, q137]
    refine cond_intro (fun hcc => ?_) (fun hcc => ?_)
    · have hlt : i < l.length := by have := of_decide_eq_true hcc; omega
      obtain ⟨x, hx⟩ : ∃ x, l[i] = x := ⟨_, rfl⟩
      have hw : IntKind.i64.wrap ((i : Int) + 1) = ((i + 1 : Nat) : Int) := by rw [wrap_i64 (by omega) (by omega)]; simp
      simp -dsimp only [Vm.G, List.lookup, Nat.reduceAdd, Nat.reduceBEq, Int.reduceBNe, Int.reduceBEq, Nat.reduceLeDiff, q137]
      refine idx_map ndAv l i hlt ?_
      simp only [hx, ndAv, ndCells]
      simp -dsimp only [Vm.G, List.lookup, Nat.reduceAdd, Nat.reduceBEq, Int.reduceBNe, Int.reduceBEq, Nat.reduceLeDiff, q137, AV.cells]
      refine call_one (S := askNd p) hg _ GaL.rfl ⟨x, rfl, ?_⟩
      cases hp : p x
      · simp -dsimp only [Vm.G, List.lookup, Nat.reduceAdd, Nat.reduceBEq, Int.reduceBNe, Int.reduceBEq, Nat.reduceLeDiff, q137]
        refine kept_intro ⟨l.length - (i + 1), by omega, _, le_mk [(0, .sl 12 (l.map ndAv)), (1, .clo g []), (7, .v (.int .i64 l.length)), (8, .v (.int .i64 (i + 1 : Nat)))] ?_, i + 1, by omega, rfl, fun j hj hj2 => ?_, rfl⟩
        · simp only [List.forall_mem_cons, List.not_mem_nil, false_imp_iff, implies_true, and_true, hw]
          try simp -dsimp only [Vm.G, List.lookup, Nat.reduceAdd, Nat.reduceBEq, Int.reduceBNe, Int.reduceBEq, Nat.reduceLeDiff, q137, hw]
          repeat' first | exact Fg.refl _ | exact Fg.nil _ _ _ (by decide) | refine And.intro ?_ ?_
        · by_cases hji : j = i
          · subst hji; rw [hx]; exact hp
          · exact hb j hj (by omega)
      · simp -dsimp only [Vm.G, List.lookup, Nat.reduceAdd, Nat.reduceBEq, Int.reduceBNe, Int.reduceBEq, Nat.reduceLeDiff, q137]
        exact hq _ ⟨fun _ => by omega, fun _ => List.any_eq_true.2 ⟨x, hx ▸ List.getElem_mem hlt, hp⟩⟩
    · have hge : ¬ i < l.length := by have := of_decide_eq_false hcc; omega
      simp -dsimp only [Vm.G, List.lookup, Nat.reduceAdd, Nat.reduceBEq, Int.reduceBNe, Int.reduceBEq, Nat.reduceLeDiff, q137]
      refine hq _ ⟨fun hm => ?_, fun h0 => by omega⟩
      obtain ⟨x, hx, hp⟩ := List.any_eq_true.1 hm
      obtain ⟨j, hj, rfl⟩ := List.getElem_of_mem hx
      rw [hb j hj (by omega)] at hp; cases hp
def hasSpecNd (T : Tab) : Vm.Spec := fun args h Q => ∃ (g : FuncId) (p : Nd → Bool) (l : List Nd), T g = some (askNd p) ∧ l.length ≤ 9223372036854775807 ∧ args = [.sl 12 (l.map ndAv), .clo g []] ∧ Q (.v (.bool (l.any p))) h
theorem does_hasNd {T : Tab} (hT : Good T) : Does Tryz.prog 60 (hasSpecNd T) := by
  refine does_of_awp (good_cons (does_ixNd hT) good_nil) Tryz.func60 rfl (by decide +kernel) (by decide +kernel) ?_
  rintro args h Q ⟨g, p, l, hg, hl, rfl, hq⟩
  refine ⟨by simp [Tryz.f60], ?_⟩
  rw [awpFunc_some (by rfl)]
  simp -dsimp only [Vm.G, List.lookup, Nat.reduceAdd, Nat.reduceBEq, Int.reduceBNe, Int.reduceBEq, Nat.reduceLeDiff, q60]
  refine call_one (S := ixSpecNd T) rfl _ GaL.rfl ⟨g, p, l, hg, hl, rfl, fun i hi => ?_⟩
  have e : decide (i ≥ 0) = l.any p := by
    cases hx : l.any p
    · rw [hx] at hi; exact decide_eq_false fun h0 => by have := hi.2 h0; cases this
    · exact decide_eq_true (hi.1 hx)
  simp -dsimp only [Vm.G, List.lookup, Nat.reduceAdd, Nat.reduceBEq, Int.reduceBNe, Int.reduceBEq, Nat.reduceLeDiff, q60, e]
  exact hq
def bigU (n : Nd) : Bool := decide (usedOf n > 1152921504606846976)
theorem does_bigU : Does Tryz.prog 61 (askNd bigU) := by
  refine does_of_awp (good_cons does_used good_nil) Tryz.func61 rfl (by decide +kernel) (by decide +kernel) ?_
  rintro args h Q ⟨x, rfl, hq⟩
  refine ⟨by simp [Tryz.f61], ?_⟩
  rw [awpFunc_some (by rfl)]
  unfold bigU at hq
  simp only [ndAv, ndCells]
  simp -dsimp only [Vm.G, List.lookup, Nat.reduceAdd, Nat.reduceBEq, Int.reduceBNe, Int.reduceBEq, Nat.reduceLeDiff, q61]
  refine call_one (S := usedSpec) rfl _ GaL.rfl ⟨x, rfl, ?_⟩
  simp -dsimp only [Vm.G, List.lookup, Nat.reduceAdd, Nat.reduceBEq, Int.reduceBNe, Int.reduceBEq, Nat.reduceLeDiff, q61]
  exact hq
def bigUT : Tab := tab [(61, askNd bigU)]
theorem good_bigUT : Good bigUT := good_cons does_bigU good_nil
def nomoreSpec : Vm.Spec := fun args h Q => ∃ (ns : List Nd) (am pt id : Int), ns.length ≤ 9223372036854775807 ∧ (∀ n ∈ ns, n.ok) ∧ (0 ≤ am ∧ am ≤ 4294967295) ∧ (0 ≤ pt ∧ pt ≤ 4294967295) ∧ (0 ≤ id ∧ id ≤ 65535) ∧
  args = [.sl 12 (ns.map ndAv), .v (.int .u32 am), .v (.int .u32 pt), .v (.int .u16 id)] ∧ ∀ h', Q (.v (.bool true)) h'
set_option maxRecDepth 20000 in
set_option maxHeartbeats 8000000 in
theorem does_nomore : Does Tryz.prog 8 nomoreSpec := by
  refine does_of_awp (good_cons does_law32awake (good_cons does_begunW32 (good_cons does_preNew (good_cons does_tall (good_cons does_encNew (good_cons (does_hasNd good_bigUT) (good_cons does_used (good_cons does_docsGet (good_cons does_docsRight good_nil))))))))) Tryz.func8 rfl (by decide +kernel) (by decide +kernel) ?_
  rintro args h Q ⟨ns, am, pt, id, hns, hnok, ham, hpt, hid, rfl, hq⟩
  refine ⟨by simp [Tryz.f8], ?_⟩
  rw [awpFunc_some (by rfl)]
  have hwam : IntKind.i64.wrap am = am := wrap_i64 (by omega) (by omega)
  have hwpt : IntKind.i64.wrap pt = pt := wrap_i64 (by omega) (by omega)
  have hwid : IntKind.i64.wrap id = id := wrap_i64 (by omega) (by omega)
  have hwA : IntKind.i64.wrap (1 + am) = 1 + am := wrap_i64 (by omega) (by omega)
  have hA1 : ∃ a, a = 1 + am := ⟨_, rfl⟩
  rcases hA1 with ⟨a, ha⟩
  rw [← ha] at hwA
  have har : 1 ≤ a ∧ a ≤ 4294967296 := by omega
  have hn1 : ∃ n, n = 1 + pt.tmod a := ⟨_, rfl⟩
  rcases hn1 with ⟨n, hn⟩
  have hmod := Int.tmod_eq_emod_of_nonneg (a := pt) (b := a) (by omega)
  have hm1 := Int.emod_nonneg pt (b := a) (by omega)
  have hm2 := Int.emod_lt_of_pos pt (b := a) (by omega)
  rw [← hmod] at hm1 hm2
  have hwt : IntKind.i64.wrap (pt.tmod a) = pt.tmod a := wrap_i64 (by omega) (by omega)
  have hwn : IntKind.i64.wrap (1 + pt.tmod a) = n := by rw [hn]; exact wrap_i64 (by omega) (by omega)
  have hnr : 1 ≤ n ∧ n ≤ a := by omega
  clear hn hmod hm1 hm2
  have hlok : ∀ x ∈ ([⟨0, 0, id, a⟩] : List Ln), x.ok := fun x hx => by
    simp only [List.mem_cons, List.not_mem_nil, or_false] at hx
    subst hx
    simp only [Ln.ok, I64]; omega
  have hlok2 : ∀ x ∈ ([⟨0, 0, 0, n⟩] : List Ln), x.ok := fun x hx => by
    simp only [List.mem_cons, List.not_mem_nil, or_false] at hx
    subst hx
    simp only [Ln.ok, I64]; omega
  have hid64 : I64 id := by unfold I64; omega
  simp -dsimp only [Vm.G, List.lookup, Nat.reduceAdd, Nat.reduceBEq, Int.reduceBNe, Int.reduceBEq, Nat.reduceLeDiff, q8]
  have h0 := Bool.eq_false_or_eq_true (decide ((ns.length : Int) > 20))
  rcases h0 with c | c
  · simp -dsimp only [Vm.G, List.lookup, Nat.reduceAdd, Nat.reduceBEq, Int.reduceBNe, Int.reduceBEq, Nat.reduceLeDiff, q8, c]
    refine call_one (S := trueSpec) rfl _ GaL.rfl ⟨rfl, fun hz => ?_⟩
    simp -dsimp only [Vm.G, List.lookup, Nat.reduceAdd, Nat.reduceBEq, Int.reduceBNe, Int.reduceBEq, Nat.reduceLeDiff, q8]
    exact hq _
  · have d0 := of_decide_eq_false c
    simp -dsimp only [Vm.G, List.lookup, Nat.reduceAdd, Nat.reduceBEq, Int.reduceBNe, Int.reduceBEq, Nat.reduceLeDiff, q8, c]
    refine call_one (S := begunWSpec) rfl _ GaL.rfl ⟨ns, by omega, hnok, rfl, fun V R h1 hB => ?_⟩
    have hbn := begunF_n ns
    simp -dsimp only [Vm.G, List.lookup, Nat.reduceAdd, Nat.reduceBEq, Int.reduceBNe, Int.reduceBEq, Nat.reduceLeDiff, q8, hwid, hwam, ← ha, hwA]
    refine bs_intro zr45 (by decide) (by decide) rfl rfl (by simp [solid, AV.cells]) ?_
    simp -dsimp only [Vm.G, List.lookup, Nat.reduceAdd, Nat.reduceBEq, Int.reduceBNe, Int.reduceBEq, Nat.reduceLeDiff, q8]
    refine call_one (S := preNewSpec) rfl _ GaL.rfl ⟨V, begunF ns, 2020, [⟨0, 0, id, a⟩], by unfold I64; omega, by simp, hlok, rfl, hB.1.1, fun h2 g1 g2 => ?_⟩
    have hlaw := fun he => enc_nomore (l := ns) (i := id) (A := a) (n := n) hid64 hnr.1 hnr.2 har.2 he
    have hpn := preNew_n (begunF ns) 2020 [⟨0, 0, id, a⟩]
    generalize preNew (begunF ns) 2020 [⟨0, 0, id, a⟩] = q at hlaw hpn g1 ⊢
    rcases q with ⟨qf, qi, qw, qe⟩
    simp only at hlaw hpn g1 ⊢
    simp -dsimp only [Vm.G, List.lookup, Nat.reduceAdd, Nat.reduceBEq, Int.reduceBNe, Int.reduceBEq, Nat.reduceLeDiff, q8]
    have h1 := Bool.eq_false_or_eq_true (qe != 0)
    rcases h1 with c1 | c1
    · simp -dsimp only [Vm.G, List.lookup, Nat.reduceAdd, Nat.reduceBEq, Int.reduceBNe, Int.reduceBEq, Nat.reduceLeDiff, q8, c1]
      refine call_one (S := trueSpec) rfl _ GaL.rfl ⟨rfl, fun hz => ?_⟩
      simp -dsimp only [Vm.G, List.lookup, Nat.reduceAdd, Nat.reduceBEq, Int.reduceBNe, Int.reduceBEq, Nat.reduceLeDiff, q8]
      exact hq _
    · have d1 : qe = 0 := by simpa using c1
      have hl := hlaw d1
      clear hlaw
      rcases hl with ⟨hqi, hl⟩
      have hl := hl qf rfl
      subst hqi
      simp -dsimp only [Vm.G, List.lookup, Nat.reduceAdd, Nat.reduceBEq, Int.reduceBNe, Int.reduceBEq, Nat.reduceLeDiff, q8, c1]
      refine call_one (S := tallSpec) rfl _ GaL.rfl ⟨V, qf, 2020, rfl, g1, by omega, fun kv h3 hsc hkl hV3 hs3 => ?_⟩
      have hl := hl kv hsc
      have hal : (allN 2020 kv).length ≤ kv.length := List.length_filterMap_le ..
      generalize allN 2020 kv = A at hl hal ⊢
      simp -dsimp only [Vm.G, List.lookup, Nat.reduceAdd, Nat.reduceBEq, Int.reduceBNe, Int.reduceBEq, Nat.reduceLeDiff, q8, hwpt, hwam, ← ha, hwA]
      refine rem_intro (by omega) ?_
      simp -dsimp only [Vm.G, List.lookup, Nat.reduceAdd, Nat.reduceBEq, Int.reduceBNe, Int.reduceBEq, Nat.reduceLeDiff, q8, hwt, hwn]
      refine bs_intro zr45 (by decide) (by decide) rfl rfl (by simp [solid, AV.cells]) ?_
      simp -dsimp only [Vm.G, List.lookup, Nat.reduceAdd, Nat.reduceBEq, Int.reduceBNe, Int.reduceBEq, Nat.reduceLeDiff, q8]
      refine call_one (S := encNewSpec) rfl _ GaL.rfl ⟨V, qf, 2020, 1, [⟨0, 0, 0, n⟩], by unfold I64; omega, by unfold I64; omega, by simp, hlok2, rfl, hV3, fun h4 k1 k2 => ?_⟩
      have hen := encNew_n qf 2020 1 [⟨0, 0, 0, n⟩]
      generalize encNew qf 2020 1 [⟨0, 0, 0, n⟩] = r at hl hen k1 ⊢
      rcases r with ⟨rf, ri, rw1, re⟩
      simp only at hl hen k1 ⊢
      rcases hl with h9 | ⟨h11, hany⟩ | ⟨he, hused, hdoc⟩
      · subst h9
        simp -dsimp only [Vm.G, List.lookup, Nat.reduceAdd, Nat.reduceBEq, Int.reduceBNe, Int.reduceBEq, Nat.reduceLeDiff, q8]
        refine call_one (S := trueSpec) rfl _ GaL.rfl ⟨rfl, fun hz => ?_⟩
        simp -dsimp only [Vm.G, List.lookup, Nat.reduceAdd, Nat.reduceBEq, Int.reduceBNe, Int.reduceBEq, Nat.reduceLeDiff, q8]
        exact hq _
      · subst h11
        have hany : A.any bigU = true := hany
        simp -dsimp only [Vm.G, List.lookup, Nat.reduceAdd, Nat.reduceBEq, Int.reduceBNe, Int.reduceBEq, Nat.reduceLeDiff, q8]
        refine call_one (S := hasSpecNd bigUT) rfl _ GaL.rfl ⟨61, bigU, A, rfl, by omega, rfl, ?_⟩
        simp -dsimp only [Vm.G, List.lookup, Nat.reduceAdd, Nat.reduceBEq, Int.reduceBNe, Int.reduceBEq, Nat.reduceLeDiff, q8, hany]
        refine call_one (S := trueSpec) rfl _ GaL.rfl ⟨rfl, fun hz => ?_⟩
        simp -dsimp only [Vm.G, List.lookup, Nat.reduceAdd, Nat.reduceBEq, Int.reduceBNe, Int.reduceBEq, Nat.reduceLeDiff, q8]
        exact hq _
      · simp only [Prod.mk.injEq] at he
        rcases he with ⟨e1, e2⟩
        subst e1
        subst e2
        simp -dsimp only [Vm.G, List.lookup, Nat.reduceAdd, Nat.reduceBEq, Int.reduceBNe, Int.reduceBEq, Nat.reduceLeDiff, q8]
        refine call_one (S := tallSpec) rfl _ GaL.rfl ⟨V, rf, 2020, rfl, k1, by omega, fun kv2 h5 hsc2 hkl2 hV5 hs5 => ?_⟩
        have hAB := hused kv2 hsc2
        have hbl : (allN 2020 kv2).length ≤ kv2.length := List.length_filterMap_le ..
        generalize allN 2020 kv2 = B at hAB hbl ⊢
        have hlen := hAB.len
        clear hused
        simp -dsimp only [Vm.G, List.lookup, Nat.reduceAdd, Nat.reduceBEq, Int.reduceBNe, Int.reduceBEq, Nat.reduceLeDiff, q8]
        refine awp_loop (fun m s h' => ∃ j : Nat, j + m = B.length ∧ h' = h5 ∧ s = mk [(9, .ptr V.iv 0), (11, .v (.int .i64 1)), (14, .own true 93 12 (A.map ndAv)), (15, .v (.int .i64 n)), (17, .v (.bool false)), (18, .v (.int .i64 0)), (19, .own true 93 12 (B.map ndAv)), (82, .v (.int .i64 B.length)), (83, .v (.int .i64 (j : Nat)))])
          B.length _ (le_mk _ ?_) ⟨0, by omega, rfl, rfl⟩ ?_
        · simp only [List.forall_mem_cons, List.not_mem_nil, false_imp_iff, implies_true, and_true]
          try simp -dsimp only [Vm.G, List.lookup, Nat.reduceAdd, Nat.reduceBEq, Int.reduceBNe, Int.reduceBEq, Nat.reduceLeDiff, q8]
          repeat' first | exact Fg.refl _ | exact Fg.nil _ _ _ (by decide) | refine And.intro ?_ ?_
        · rintro m s h6 ⟨j, hj, rfl, rfl⟩
          have hwj : IntKind.i64.wrap ((j : Int) + 1) = ((j + 1 : Nat) : Int) := by rw [wrap_i64 (by omega) (by omega)]; simp
          simp -dsimp only [Vm.G, List.lookup, Nat.reduceAdd, Nat.reduceBEq, Int.reduceBNe, Int.reduceBEq, Nat.reduceLeDiff, q8]
          refine cond_intro (fun hcj => ?_) (fun hcj => ?_)
          · have hltj : j < B.length := by have := of_decide_eq_true hcj; omega
            have hltA : j < A.length := by omega
            have hR := hAB.get j hltA hltj
            have hgB : (B.map ndAv)[j]? = some (ndAv B[j]) := by rw [List.getElem?_map, List.getElem?_eq_getElem hltj]; rfl
            have hgA : (A.map ndAv)[j]? = some (ndAv A[j]) := by rw [List.getElem?_map, List.getElem?_eq_getElem hltA]; rfl
            generalize B[j] = b at hR hgB
            generalize A[j] = x at hR hgA
            have hne : (usedOf b != usedOf x) = false := by simp [hR]
            simp -dsimp only [Vm.G, List.lookup, Nat.reduceAdd, Nat.reduceBEq, Int.reduceBNe, Int.reduceBEq, Nat.reduceLeDiff, q8]
            refine draw_cont [] (.take 0 (.take 1 (.take 2 (.take 5 (.take 6 (.take 7 (.alt 3 (.alt 4 (.alt 8 (.alt 9 (.take 10 (.done)) .stop) .stop) (.alt 8 (.alt 4 (.alt 9 (.take 10 (.done)) .stop) .stop) (.stop))) (.alt 8 (.alt 3 (.alt 4 (.alt 9 (.take 10 (.done)) .stop) .stop) .stop) (.stop))))))))) (fun s h7 => h7 = h6 ∧ s 96 = .v (.bool false) ∧ s 9 = .ptr V.iv 0 ∧ s 11 = .v (.int .i64 1) ∧ s 14 = .own true 93 12 (A.map ndAv) ∧ s 15 = .v (.int .i64 n) ∧ s 17 = .v (.bool false) ∧ s 18 = .v (.int .i64 0) ∧ s 19 = .own true 93 12 (B.map ndAv) ∧ s 82 = .v (.int .i64 B.length) ∧ s 83 = .v (.int .i64 (j : Nat))) (by kernel_rfl) (by kernel_rfl) (by kernel_rfl) (by decide) ?_ ?_
            · clear hq
              repeat' first
                | with_reducible exact True.intro
                | refine idxO_intro (xs := B.map ndAv) (by omega) (by simp; omega) ?_
                | refine idxO_intro (xs := A.map ndAv) (by omega) (by simp; omega) ?_
                | refine eltA_intro (xs := B.map ndAv) hgB ?_
                | refine eltA_intro (xs := A.map ndAv) hgA ?_
                | refine call_one (S := usedSpec) rfl _ GaL.rfl ⟨b, rfl, ?_⟩
                | refine call_one (S := usedSpec) rfl _ GaL.rfl ⟨x, rfl, ?_⟩
                | simp -dsimp only [Vm.G, List.lookup, Nat.reduceAdd, Nat.reduceBEq, Int.reduceBNe, Int.reduceBEq, Nat.reduceLeDiff, q8, Int.toNat_natCast, ndAv, ndCells, AV.cells, List.drop_zero, List.drop_succ_cons, hne]
                | refine tree_alt ?_ ?_
                | repeat' first | rfl | exact True.intro | refine And.intro ?_ ?_
            · rintro s h7 ⟨rfl, e96, e9, e11, e14, e15, e17, e18, e19, e82, e83⟩
              simp -dsimp only [Vm.G, List.lookup, Nat.reduceAdd, Nat.reduceBEq, Int.reduceBNe, Int.reduceBEq, Nat.reduceLeDiff, q8, e96, e9, e11, e14, e15, e17, e18, e19, e82, e83]
              refine kept_intro ⟨B.length - (j + 1), by omega, _, le_mk [(9, .ptr V.iv 0), (11, .v (.int .i64 1)), (14, .own true 93 12 (A.map ndAv)), (15, .v (.int .i64 n)), (17, .v (.bool false)), (18, .v (.int .i64 0)), (19, .own true 93 12 (B.map ndAv)), (82, .v (.int .i64 B.length)), (83, .v (.int .i64 (j + 1 : Nat)))] ?_, j + 1, by omega, rfl, rfl⟩
              simp only [List.forall_mem_cons, List.not_mem_nil, false_imp_iff, implies_true, and_true, hwj, e96, e9, e11, e14, e15, e17, e18, e19, e82, e83]
              try simp -dsimp only [Vm.G, List.lookup, Nat.reduceAdd, Nat.reduceBEq, Int.reduceBNe, Int.reduceBEq, Nat.reduceLeDiff, q8, hwj, e96, e9, e11, e14, e15, e17, e18, e19, e82, e83]
              repeat' first | exact Fg.refl _ | exact Fg.nil _ _ _ (by decide) | refine And.intro ?_ ?_
          · have hgej : ¬ j < B.length := by have := of_decide_eq_false hcj; omega
            simp -dsimp only [Vm.G, List.lookup, Nat.reduceAdd, Nat.reduceBEq, Int.reduceBNe, Int.reduceBEq, Nat.reduceLeDiff, q8]
            refine call_one (S := docsGetSpec) rfl _ GaL.rfl ⟨V, rf, 1, rfl, hV5, fun d l hd hl6 hdl => ?_, fun hn => by rw [hdoc] at hn; cases hn⟩
            rw [hdoc] at hd
            cases hd
            have e2 : (([⟨id, a, n, 0⟩] : List Dl).map dlAv).length = 1 := rfl
            have e3 : (([⟨id, a, n, 0⟩] : List Dl).map dlAv)[(0 : Int).toNat]? = some (dlAv ⟨id, a, n, 0⟩) := rfl
            have hop : openD ⟨id, a, n, 0⟩ = a - n := by
              show w64 (a - w64 (n + 0)) = a - n
              rw [w64_id (n := n + 0) (by omega) (by omega), w64_id (by omega) (by omega)]
              omega
            have hr : rightD ⟨id, a, n, 0⟩ = true := by
              unfold rightD inD
              rw [hop]
              simp
              omega
            generalize hxs : ([⟨id, a, n, 0⟩] : List Dl).map dlAv = xs at e2 e3 ⊢
            simp only [dcCells]
            simp -dsimp only [Vm.G, List.lookup, Nat.reduceAdd, Nat.reduceBEq, Int.reduceBNe, Int.reduceBEq, Nat.reduceLeDiff, q8]
            refine idxO_intro (by decide) (by rw [e2]; decide) ?_
            simp -dsimp only [Vm.G, List.lookup, Nat.reduceAdd, Nat.reduceBEq, Int.reduceBNe, Int.reduceBEq, Nat.reduceLeDiff, q8]
            refine eltA_intro e3 ?_
            simp only [dlAv, dlCells]
            simp -dsimp only [Vm.G, List.lookup, Nat.reduceAdd, Nat.reduceBEq, Int.reduceBNe, Int.reduceBEq, Nat.reduceLeDiff, q8, AV.cells, List.drop_zero]
            refine call_one (S := rightDSpec) rfl _ GaL.rfl ⟨⟨id, a, n, 0⟩, rfl, ?_⟩
            simp -dsimp only [Vm.G, List.lookup, Nat.reduceAdd, Nat.reduceBEq, Int.reduceBNe, Int.reduceBEq, Nat.reduceLeDiff, q8, hr]
            refine idxO_intro (by decide) (by rw [e2]; decide) ?_
            simp -dsimp only [Vm.G, List.lookup, Nat.reduceAdd, Nat.reduceBEq, Int.reduceBNe, Int.reduceBEq, Nat.reduceLeDiff, q8]
            refine eltA_intro e3 ?_
            simp only [dlAv, dlCells]
            simp -dsimp only [Vm.G, List.lookup, Nat.reduceAdd, Nat.reduceBEq, Int.reduceBNe, Int.reduceBEq, Nat.reduceLeDiff, q8, AV.cells, List.drop_zero, List.drop_succ_cons, beq_self_eq_true]
            refine call_one (S := trueSpec) rfl _ GaL.rfl ⟨rfl, fun hz => ?_⟩
            simp -dsimp only [Vm.G, List.lookup, Nat.reduceAdd, Nat.reduceBEq, Int.reduceBNe, Int.reduceBEq, Nat.reduceLeDiff, q8]
            exact hq _
theorem nomore_args {y0 y1 y2 y3 : AV} (i0 : IsA (.sl (.agg [.int .i64, .int .i64, .int .i64, .int .i64, .int .i64, .bool, .int .i64, .int .i64, .int .i64, .int .i64, .int .i64, .int .i64])) y0) (i1 : IsA (.int .u32) y1) (i2 : IsA (.int .u32) y2) (i3 : IsA (.int .u16) y3) {Q : AV → Heap → Prop} (hq : ∀ h', Q (.v (.bool true)) h') : nomoreSpec [y0, y1, y2, y3] [] Q := by
  obtain ⟨ns, h1, rfl, o1⟩ := isA_list _ ndAv (fun y hy => isA_nd hy) i0
  obtain ⟨a, a1, a2, rfl⟩ := isA_un i1
  obtain ⟨b, b1, b2, rfl⟩ := isA_un i2
  obtain ⟨c, c1, c2, rfl⟩ := isA_u16 i3
  have e1 : IntKind.u32.min = 0 := by decide
  have e2 : IntKind.u32.max = 4294967295 := by decide
  rw [e1] at a1 b1; rw [e2] at a2 b2
  exact ⟨ns, a, b, c, h1, o1, ⟨a1, a2⟩, ⟨b1, b2⟩, ⟨c1, c2⟩, rfl, hq⟩
end Go.Proofs.Lx
