/- A view in memory: its functions, by their contracts. -/
import Derived.Test.YthfbpdipilajoaaGreatDoorL4
set_option linter.unusedSimpArgs false
set_option linter.unusedVariables false
namespace Go.Proofs.Lx
open Go.Vm
attribute [local irreducible] awpMake awpAppend awpCvX awpStrOf awpBinX awpSlice awpBS awpStore awpAlloc awpCopy awpIndex awpDraw awpIdxX awpFa awpField awpLookup awpUpdate awpDelete awpClear awpRange awpNext awpEntry awpBuild

abbrev nilP : AV := .v (.pointer none)
abbrev vobj (ic im : Nat) : AObj := .cells [.mp ic, nilP, .mp im, .v (.int .i64 0)]
def vnewSpec : Vm.Spec := fun args h Q => args = [nilP] ∧ Q (.ptr (h.length + 2) 0) (h ++ [.map [] 0, .map [] 0, vobj h.length (h.length + 1)])

theorem isView_new (h : Heap) : isView (h ++ [.map [] 0, .map [] 0, vobj h.length (h.length + 1)]) ⟨h.length + 2, h.length, h.length + 1⟩ noF := by
  refine ⟨[], 0, [], 0, ?_, ?_, ?_, ⟨by simp, by simp, by simp⟩, ⟨by simp, by simp⟩, ⟨⟨⟨by simp, by simp⟩, by simp⟩, ⟨⟨by simp, by simp⟩, by simp⟩⟩, fun k => rfl, ⟨by simp, by simp⟩, by simp⟩ <;> (rw [List.getElem?_append_right (by simp)]; simp)

theorem does_vnew : Does Tryz.prog 19 vnewSpec := by
  refine does_of_awp good_nil Tryz.func19 rfl (by decide +kernel) (by decide +kernel) ?_
  rintro args h Q ⟨rfl, hq⟩
  refine ⟨by simp [Tryz.f19], ?_⟩
  rw [awpFunc_some (by rfl)]
  simp -dsimp only [Vm.E, List.lookup, Nat.reduceAdd, Nat.reduceBEq, Int.reduceBNe, Int.reduceBEq, Bool.true_beq, Bool.false_beq]
  refine build_intro fl126 z126 rfl rfl ?_
  simp -dsimp only [Vm.E, List.lookup, Nat.reduceAdd, Nat.reduceBEq, Int.reduceBNe, Int.reduceBEq, Bool.true_beq, Bool.false_beq, Tryz.results19]
  simpa using hq

def vreadySpec : Vm.Spec := fun args h Q => ∃ iv ic cs, args = [.ptr iv 0] ∧ h[iv]? = some (.cells (.mp ic :: cs)) ∧ Q (.v (.bool true)) h

theorem does_vready : Does Tryz.prog 89 vreadySpec := by
  refine does_of_awp good_nil Tryz.func89 rfl (by decide +kernel) (by decide +kernel) ?_
  rintro args h Q ⟨iv, ic, cs, rfl, hv, hq⟩
  refine ⟨by simp [Tryz.f89], ?_⟩
  rw [awpFunc_some (by rfl)]
  simp -dsimp only [Vm.E, List.lookup, Nat.reduceAdd, Nat.reduceBEq, Int.reduceBNe, Int.reduceBEq, Bool.true_beq, Bool.false_beq]
  refine nil_pointer Tryz.underlying26 ?_
  simp -dsimp only [Vm.E, List.lookup, Nat.reduceAdd, Nat.reduceBEq, Int.reduceBNe, Int.reduceBEq, Bool.true_beq, Bool.false_beq, fo126_0, hv, of123]
  refine nil_map Tryz.underlying123 ?_
  simp -dsimp only [Vm.E, List.lookup, Nat.reduceAdd, Nat.reduceBEq, Int.reduceBNe, Int.reduceBEq, Bool.true_beq, Bool.false_beq, Tryz.results89]
  exact hq

def vwasSpec : Vm.Spec := fun args h Q => ∃ iv ic im mem clk k, args = [.ptr iv 0, .sl 1 (k.map encB)] ∧ h[iv]? = some (vobj ic im) ∧ h[im]? = some (.map mem clk) ∧ (∀ e ∈ mem, WfM e) ∧
  (∀ e, mget (strK k) mem = some e → Q (.tup [e.val, .v (.bool true)]) h) ∧ (mget (strK k) mem = none → Q (.tup [.v (.slice none 0 0), .v (.bool false)]) h)

theorem keys_str {es : List Ent} (h : ∀ e ∈ es, ∃ k, e.key = strK k) : ∀ e ∈ es, MapKept.IsKey .string e.key := fun e he => by
  obtain ⟨k, hk⟩ := h e he
  rw [hk]; trivial
theorem WfM.val_eq {e : Ent} (h : WfM e) : val e.val = e.val ∧ ∀ s, (tkA s 0 e.val).1 = e.val := by
  obtain ⟨-, l, hl, -⟩ := h
  rcases hl with h | ⟨-, h⟩ <;> rw [h] <;> exact ⟨rfl, fun _ => rfl⟩

theorem does_vwas : Does Tryz.prog 201 vwasSpec := by
  refine does_of_awp good_nil Tryz.func201 rfl (by decide +kernel) (by decide +kernel) ?_
  rintro args h Q ⟨iv, ic, im, mem, clk, k, rfl, hv, hm, hw, hq1, hq2⟩
  refine ⟨by simp [Tryz.f201], ?_⟩
  rw [awpFunc_some (by rfl)]
  simp -dsimp only [Vm.E, List.lookup, Nat.reduceAdd, Nat.reduceBEq, Int.reduceBNe, Int.reduceBEq, Bool.true_beq, Bool.false_beq, fo126_1, hv, of121]
  refine nil_pointer Tryz.underlying121 ?_
  simp -dsimp only [Vm.E, List.lookup, Nat.reduceAdd, Nat.reduceBEq, Int.reduceBNe, Int.reduceBEq, Bool.true_beq, Bool.false_beq]
  refine draw_intro (.take 0 (.take 1 (.take 2 (.take 4 (.take 5 (.alt 3 (.alt 6 (.take 7 (.take 8 (.take 9 (.alt 10 (.alt 11 (.done) .stop) .stop)))) .stop) .stop)))))) (by kernel_rfl) (by kernel_rfl) (by kernel_rfl) (by decide) ?_
  simp -dsimp only [Vm.E, List.lookup, Nat.reduceAdd, Nat.reduceBEq, Int.reduceBNe, Int.reduceBEq, Bool.true_beq, Bool.false_beq, fo126_2, Tryz.underlying45, cs45]
  refine strOf_sl bt45 k rfl ?_
  simp -dsimp only [Vm.E, List.lookup, Nat.reduceAdd, Nat.reduceBEq, Int.reduceBNe, Int.reduceBEq, Bool.true_beq, Bool.false_beq, hv, of124]
  refine lookup_intro mt124 z45 mem clk hm trivial (keys_str fun e he => (hw e he).1) (fun e he => ?_) (fun he => ?_)
  · have hwe := hw e (mget_mem he)
    obtain ⟨-, l, hl, -⟩ := hwe
    have hq := hq1 e he
    generalize e.val = x at hl hq ⊢
    simp only [lookRes, if_true]
    rcases hl with rfl | ⟨rfl, rfl⟩
    · simp -dsimp only [Vm.E, List.lookup, Nat.reduceAdd, Nat.reduceBEq, Int.reduceBNe, Int.reduceBEq, Bool.true_beq, Bool.false_beq, Tryz.results201]
      exact hq
    · simp -dsimp only [Vm.E, List.lookup, Nat.reduceAdd, Nat.reduceBEq, Int.reduceBNe, Int.reduceBEq, Bool.true_beq, Bool.false_beq, Tryz.results201]
      exact hq
  · simp only [lookRes, if_true]
    simp -dsimp only [Vm.E, List.lookup, Nat.reduceAdd, Nat.reduceBEq, Int.reduceBNe, Int.reduceBEq, Bool.true_beq, Bool.false_beq, Tryz.results201]
    exact hq2 he

def vgetSpec : Vm.Spec := fun args h Q => ∃ V f k, args = [.ptr V.iv 0, .sl 1 (k.map encB)] ∧ isView h V f ∧ (∀ x l, isB x l → f k = some l → Q (.tup [x, .v (.bool true)]) h) ∧ (∀ x, isB x [] → f k = none → Q (.tup [x, .v (.bool false)]) h)

/-- What a clone answers. -/
theorem clone_isB {v : AV} {l : List UInt8} (h : v = .own true 5 1 (l.map encB) ∨ (l = [] ∧ v = .v (.slice none 0 0))) : (v = .own true 5 1 (l.map encB) ∧ isB (.sl 1 (l.map encB)) l) ∨ (v = .v (.slice none 0 0) ∧ isB v l) := by
  rcases h with rfl | ⟨rfl, rfl⟩
  · exact .inl ⟨rfl, .inl rfl⟩
  · exact .inr ⟨rfl, .inr ⟨rfl, rfl⟩⟩

theorem does_vget : Does Tryz.prog 153 vgetSpec := by
  refine does_of_awp (good_cons does_vready (good_cons does_vwas (good_cons does_clone good_nil))) Tryz.func153 rfl (by decide +kernel) (by decide +kernel) ?_
  rintro args h Q ⟨V, f, k, rfl, ⟨chg, clk, mem, clk2, h1, h2, h3, h4, h5, h6, h7⟩, hq1, hq2⟩
  refine ⟨by simp [Tryz.f153], ?_⟩
  rw [awpFunc_some (by rfl)]
  have hk7 := h7.1 k
  unfold nowOf at hk7
  simp -dsimp only [Vm.E, List.lookup, Nat.reduceAdd, Nat.reduceBEq, Int.reduceBNe, Int.reduceBEq, Bool.true_beq, Bool.false_beq]
  refine call_one (S := vreadySpec) rfl _ GaL.rfl ⟨V.iv, V.ic, _, rfl, h1, ?_⟩
  simp -dsimp only [Vm.E, List.lookup, Nat.reduceAdd, Nat.reduceBEq, Int.reduceBNe, Int.reduceBEq, Bool.true_beq, Bool.false_beq, fo126_3, h1, of30, bne_self_eq_false]
  refine draw_cont [] (.take 0 (.take 1 (.take 2 (.take 4 (.take 5 (.alt 3 (.alt 6 (.take 7 (.take 8 (.take 9 (.alt 10 (.alt 11 (.alt 12 (.done) .stop) .stop) .stop)))) (.alt 10 (.alt 6 (.take 7 (.take 8 (.take 9 (.alt 11 (.alt 12 (.done) .stop) .stop)))) .stop) (.stop))) (.alt 10 (.alt 3 (.alt 6 (.take 7 (.take 8 (.take 9 (.alt 11 (.alt 12 (.done) .stop) .stop)))) .stop) .stop) (.stop)))))))) (fun s h' => h' = h ∧ s 0 = .ptr V.iv 0 ∧ s 1 = .sl 1 (k.map encB) ∧ ((∃ e, mget (strK k) chg = some e ∧ s 6 = .box e.val.cells ∧ s 7 = .v (.bool true)) ∨ (mget (strK k) chg = none ∧ s 7 = .v (.bool false))))
    (by kernel_rfl) (by kernel_rfl) (by kernel_rfl) (by decide) ?_ ?_
  · have cz : cst (.agg #[.slice none 0 0, .bool false]) = .agg [.v (.slice none 0 0), .v (.bool false)] := by simp [cst, plain]
    have al := fun K => @alloc_agg Tryz.prog 134 _ z134 (by simp [plain]) K
    simp -dsimp only [Vm.E, List.lookup, Nat.reduceAdd, Nat.reduceBEq, Int.reduceBNe, Int.reduceBEq, Bool.true_beq, Bool.false_beq, fo126_0, Tryz.underlying45, cs45]
    refine strOf_sl bt45 k rfl ?_
    simp -dsimp only [Vm.E, List.lookup, Nat.reduceAdd, Nat.reduceBEq, Int.reduceBNe, Int.reduceBEq, Bool.true_beq, Bool.false_beq]
    refine tree_alt ?_ (tree_alt ?_ trivial)
    · simp -dsimp only [Vm.E, List.lookup, Nat.reduceAdd, Nat.reduceBEq, Int.reduceBNe, Int.reduceBEq, Bool.true_beq, Bool.false_beq, h1, of123]
      refine tree_alt ?_ (tree_alt ?_ trivial)
      · simp -dsimp only [Vm.E, List.lookup, Nat.reduceAdd, Nat.reduceBEq, Int.reduceBNe, Int.reduceBEq, Bool.true_beq, Bool.false_beq]
        refine lookup_intro mt123 z134 chg clk h2 trivial (keys_str fun e he => (h5.1 e he).1) (fun e he => ?_) (fun he => ?_)
        · obtain ⟨-, x, l, b, hx, -, hev⟩ := h5.1 e (mget_mem he)
          simp only [lookRes, if_true, hev]
          simp -dsimp only [Vm.E, List.lookup, Nat.reduceAdd, Nat.reduceBEq, Int.reduceBNe, Int.reduceBEq, Bool.true_beq, Bool.false_beq, al, sz134]
          refine store_place _ rfl rfl rfl (by decide) ?_
          simp -dsimp only [Vm.E, List.lookup, Nat.reduceAdd, Nat.reduceBEq, Int.reduceBNe, Int.reduceBEq, Bool.true_beq, Bool.false_beq]
          exact .inl ⟨e, he, by rw [hev]; rfl, trivial⟩
        · simp only [lookRes, if_true, cz]
          simp -dsimp only [Vm.E, List.lookup, Nat.reduceAdd, Nat.reduceBEq, Int.reduceBNe, Int.reduceBEq, Bool.true_beq, Bool.false_beq, al, sz134]
          refine store_place _ rfl rfl rfl (by decide) ?_
          simp -dsimp only [Vm.E, List.lookup, Nat.reduceAdd, Nat.reduceBEq, Int.reduceBNe, Int.reduceBEq, Bool.true_beq, Bool.false_beq]
          exact .inr ⟨he, trivial⟩
      · simp -dsimp only [Vm.E, List.lookup, Nat.reduceAdd, Nat.reduceBEq, Int.reduceBNe, Int.reduceBEq, Bool.true_beq, Bool.false_beq, al]
        refine lookup_intro mt123 z134 chg clk h2 trivial (keys_str fun e he => (h5.1 e he).1) (fun e he => ?_) (fun he => ?_)
        · obtain ⟨-, x, l, b, hx, -, hev⟩ := h5.1 e (mget_mem he)
          simp only [lookRes, if_true, hev]
          simp -dsimp only [Vm.E, List.lookup, Nat.reduceAdd, Nat.reduceBEq, Int.reduceBNe, Int.reduceBEq, Bool.true_beq, Bool.false_beq, al, sz134]
          refine store_place _ rfl rfl rfl (by decide) ?_
          simp -dsimp only [Vm.E, List.lookup, Nat.reduceAdd, Nat.reduceBEq, Int.reduceBNe, Int.reduceBEq, Bool.true_beq, Bool.false_beq]
          exact .inl ⟨e, he, by rw [hev]; rfl, trivial⟩
        · simp only [lookRes, if_true, cz]
          simp -dsimp only [Vm.E, List.lookup, Nat.reduceAdd, Nat.reduceBEq, Int.reduceBNe, Int.reduceBEq, Bool.true_beq, Bool.false_beq, al, sz134]
          refine store_place _ rfl rfl rfl (by decide) ?_
          simp -dsimp only [Vm.E, List.lookup, Nat.reduceAdd, Nat.reduceBEq, Int.reduceBNe, Int.reduceBEq, Bool.true_beq, Bool.false_beq]
          exact .inr ⟨he, trivial⟩
    · simp -dsimp only [Vm.E, List.lookup, Nat.reduceAdd, Nat.reduceBEq, Int.reduceBNe, Int.reduceBEq, Bool.true_beq, Bool.false_beq, al, h1, of123]
      refine lookup_intro mt123 z134 chg clk h2 trivial (keys_str fun e he => (h5.1 e he).1) (fun e he => ?_) (fun he => ?_)
      · obtain ⟨-, x, l, b, hx, -, hev⟩ := h5.1 e (mget_mem he)
        simp only [lookRes, if_true, hev]
        simp -dsimp only [Vm.E, List.lookup, Nat.reduceAdd, Nat.reduceBEq, Int.reduceBNe, Int.reduceBEq, Bool.true_beq, Bool.false_beq, al, sz134]
        refine store_place _ rfl rfl rfl (by decide) ?_
        simp -dsimp only [Vm.E, List.lookup, Nat.reduceAdd, Nat.reduceBEq, Int.reduceBNe, Int.reduceBEq, Bool.true_beq, Bool.false_beq]
        exact .inl ⟨e, he, by rw [hev]; rfl, trivial⟩
      · simp only [lookRes, if_true, cz]
        simp -dsimp only [Vm.E, List.lookup, Nat.reduceAdd, Nat.reduceBEq, Int.reduceBNe, Int.reduceBEq, Bool.true_beq, Bool.false_beq, al, sz134]
        refine store_place _ rfl rfl rfl (by decide) ?_
        simp -dsimp only [Vm.E, List.lookup, Nat.reduceAdd, Nat.reduceBEq, Int.reduceBNe, Int.reduceBEq, Bool.true_beq, Bool.false_beq]
        exact .inr ⟨he, trivial⟩
  · rintro s h' ⟨rfl, hs0, hs1, hs⟩
    rcases hs with ⟨e, he, hs6, hs7⟩ | ⟨he, hs7⟩
    · obtain ⟨-, x, l, b, hx, hl, hev⟩ := h5.1 e (mget_mem he)
      rw [hev] at hs6
      rw [he] at hk7
      have hk7' : f k = shapeOf e.val := hk7
      rw [hev] at hk7'
      simp -dsimp only [Vm.E, List.lookup, Nat.reduceAdd, Nat.reduceBEq, Int.reduceBNe, Int.reduceBEq, Bool.true_beq, Bool.false_beq, hs0, hs1, hs6, hs7, fo134_1, of4]
      cases b
      · simp only [shapeOf, bytesOf_isB hx] at hk7'
        have hg := hx.ga
        rcases hx with rfl | ⟨rfl, rfl⟩
        · simp -dsimp only [Vm.E, List.lookup, Nat.reduceAdd, Nat.reduceBEq, Int.reduceBNe, Int.reduceBEq, Bool.true_beq, Bool.false_beq, hs0, hs1, hs6, hs7, fo134_0, of45]
          refine call_one (S := cloneSpec) rfl _ (GaL.cons hg .nil) ⟨l, by omega, rfl, fun v hv => ?_⟩
          rcases clone_isB hv with ⟨rfl, hx'⟩ | ⟨rfl, hx'⟩
          · simp -dsimp only [Vm.E, List.lookup, Nat.reduceAdd, Nat.reduceBEq, Int.reduceBNe, Int.reduceBEq, Bool.true_beq, Bool.false_beq, hs0, hs1, hs6, hs7, Tryz.results153]
            exact hq1 _ l hx' hk7'
          · simp -dsimp only [Vm.E, List.lookup, Nat.reduceAdd, Nat.reduceBEq, Int.reduceBNe, Int.reduceBEq, Bool.true_beq, Bool.false_beq, hs0, hs1, hs6, hs7, Tryz.results153]
            exact hq1 _ l hx' hk7'
        · simp -dsimp only [Vm.E, List.lookup, Nat.reduceAdd, Nat.reduceBEq, Int.reduceBNe, Int.reduceBEq, Bool.true_beq, Bool.false_beq, hs0, hs1, hs6, hs7, fo134_0, of45]
          refine call_one (S := cloneSpec) rfl _ (GaL.cons hg .nil) ⟨[], by simp, rfl, fun v hv => ?_⟩
          rcases clone_isB hv with ⟨rfl, hx'⟩ | ⟨rfl, hx'⟩
          · simp -dsimp only [Vm.E, List.lookup, Nat.reduceAdd, Nat.reduceBEq, Int.reduceBNe, Int.reduceBEq, Bool.true_beq, Bool.false_beq, hs0, hs1, hs6, hs7, Tryz.results153]
            exact hq1 _ [] hx' hk7'
          · simp -dsimp only [Vm.E, List.lookup, Nat.reduceAdd, Nat.reduceBEq, Int.reduceBNe, Int.reduceBEq, Bool.true_beq, Bool.false_beq, hs0, hs1, hs6, hs7, Tryz.results153]
            exact hq1 _ [] hx' hk7'
      · simp only [shapeOf] at hk7'
        simp -dsimp only [Vm.E, List.lookup, Nat.reduceAdd, Nat.reduceBEq, Int.reduceBNe, Int.reduceBEq, Bool.true_beq, Bool.false_beq, hs0, hs1, hs6, hs7, Tryz.results153]
        exact hq2 _ (.inr ⟨rfl, rfl⟩) hk7'
    · rw [he] at hk7
      have hk7' : f k = (mget (strK k) mem).map fun e => bytesOf e.val := hk7
      simp -dsimp only [Vm.E, List.lookup, Nat.reduceAdd, Nat.reduceBEq, Int.reduceBNe, Int.reduceBEq, Bool.true_beq, Bool.false_beq, hs0, hs1, hs7]
      refine call_one (S := vwasSpec) rfl _ GaL.rfl ⟨V.iv, V.ic, V.im, mem, clk2, k, rfl, h1, h3, h5.2, fun e he2 => ?_, fun he2 => ?_⟩
      · rw [he2] at hk7'
        obtain ⟨-, l, hx, hl⟩ := h5.2 e (mget_mem he2)
        have hf : f k = some l := by rw [hk7']; simp [bytesOf_isB hx]
        clear hk7'
        generalize e.val = x at hx ⊢
        have hg := hx.ga
        rcases hx with rfl | ⟨rfl, rfl⟩
        · simp -dsimp only [Vm.E, List.lookup, Nat.reduceAdd, Nat.reduceBEq, Int.reduceBNe, Int.reduceBEq, Bool.true_beq, Bool.false_beq, hs0, hs1, hs7]
          refine call_one (S := cloneSpec) rfl _ (GaL.cons hg .nil) ⟨l, by omega, rfl, fun v hv => ?_⟩
          rcases clone_isB hv with ⟨rfl, hx'⟩ | ⟨rfl, hx'⟩
          · simp -dsimp only [Vm.E, List.lookup, Nat.reduceAdd, Nat.reduceBEq, Int.reduceBNe, Int.reduceBEq, Bool.true_beq, Bool.false_beq, hs0, hs1, hs7, Tryz.results153]
            exact hq1 _ l hx' hf
          · simp -dsimp only [Vm.E, List.lookup, Nat.reduceAdd, Nat.reduceBEq, Int.reduceBNe, Int.reduceBEq, Bool.true_beq, Bool.false_beq, hs0, hs1, hs7, Tryz.results153]
            exact hq1 _ l hx' hf
        · simp -dsimp only [Vm.E, List.lookup, Nat.reduceAdd, Nat.reduceBEq, Int.reduceBNe, Int.reduceBEq, Bool.true_beq, Bool.false_beq, hs0, hs1, hs7]
          refine call_one (S := cloneSpec) rfl _ (GaL.cons hg .nil) ⟨[], by simp, rfl, fun v hv => ?_⟩
          rcases clone_isB hv with ⟨rfl, hx'⟩ | ⟨rfl, hx'⟩
          · simp -dsimp only [Vm.E, List.lookup, Nat.reduceAdd, Nat.reduceBEq, Int.reduceBNe, Int.reduceBEq, Bool.true_beq, Bool.false_beq, hs0, hs1, hs7, Tryz.results153]
            exact hq1 _ [] hx' hf
          · simp -dsimp only [Vm.E, List.lookup, Nat.reduceAdd, Nat.reduceBEq, Int.reduceBNe, Int.reduceBEq, Bool.true_beq, Bool.false_beq, hs0, hs1, hs7, Tryz.results153]
            exact hq1 _ [] hx' hf
      · rw [he2] at hk7'
        have hf : f k = none := hk7'
        simp -dsimp only [Vm.E, List.lookup, Nat.reduceAdd, Nat.reduceBEq, Int.reduceBNe, Int.reduceBEq, Bool.true_beq, Bool.false_beq, hs0, hs1, hs7]
        refine call_one (S := cloneSpec) rfl _ (GaL.cons (.nil 1) .nil) ⟨[], by simp, rfl, fun v hv => ?_⟩
        rcases clone_isB hv with ⟨rfl, hx'⟩ | ⟨rfl, hx'⟩
        · simp -dsimp only [Vm.E, List.lookup, Nat.reduceAdd, Nat.reduceBEq, Int.reduceBNe, Int.reduceBEq, Bool.true_beq, Bool.false_beq, hs0, hs1, hs7, Tryz.results153]
          exact hq2 _ hx' hf
        · simp -dsimp only [Vm.E, List.lookup, Nat.reduceAdd, Nat.reduceBEq, Int.reduceBNe, Int.reduceBEq, Bool.true_beq, Bool.false_beq, hs0, hs1, hs7, Tryz.results153]
          exact hq2 _ hx' hf

def rightKV (k v : List UInt8) : Bool := !(decide ((k.length : Int) < 1)) && !(decide ((k.length : Int) > 32)) && !(decide ((v.length : Int) > 120))
def vputSpec : Vm.Spec := fun args h Q => ∃ V f k v, args = [.ptr V.iv 0, .sl 1 (k.map encB), .sl 1 (v.map encB)] ∧ isView h V f ∧
  (rightKV k v = true → ∀ h', isView h' V (upd f k (some v)) → Same h h' [V.ic] → Q (.v (.int .i64 0)) h') ∧ (rightKV k v = false → Q (.v (.int .i64 1)) h)

theorem Same.refl (h : Heap) (fp : List Nat) : Same h h fp := ⟨Nat.le_refl _, fun _ _ _ => rfl⟩
theorem Same.set (h : Heap) (i : Nat) (x : AObj) : Same h (h.set i x) [i] := ⟨by simp, fun j hj hne => by rw [List.getElem?_set_ne]; simp at hne; omega⟩

theorem does_vput : Does Tryz.prog 21 vputSpec := by
  refine does_of_awp (good_cons does_vready (good_cons does_clone good_nil)) Tryz.func21 rfl (by decide +kernel) (by decide +kernel) ?_
  rintro args h Q ⟨V, f, k, v, rfl, ⟨chg, clk, mem, clk2, h1, h2, h3, h4, h5, h6, h7⟩, hq1, hq2⟩
  refine ⟨by simp [Tryz.f21], ?_⟩
  rw [awpFunc_some (by rfl)]
  unfold rightKV at hq1 hq2
  simp -dsimp only [Vm.E, List.lookup, Nat.reduceAdd, Nat.reduceBEq, Int.reduceBNe, Int.reduceBEq, Bool.true_beq, Bool.false_beq]
  refine call_one (S := vreadySpec) rfl _ GaL.rfl ⟨V.iv, V.ic, _, rfl, h1, ?_⟩
  simp -dsimp only [Vm.E, List.lookup, Nat.reduceAdd, Nat.reduceBEq, Int.reduceBNe, Int.reduceBEq, Bool.true_beq, Bool.false_beq, Tryz.underlying45]
  cases c1 : decide ((k.length : Int) < 1)
  · simp -dsimp only [Vm.E, List.lookup, Nat.reduceAdd, Nat.reduceBEq, Int.reduceBNe, Int.reduceBEq, Bool.true_beq, Bool.false_beq, Tryz.underlying45]
    cases c2 : decide ((k.length : Int) > 32)
    · simp -dsimp only [Vm.E, List.lookup, Nat.reduceAdd, Nat.reduceBEq, Int.reduceBNe, Int.reduceBEq, Bool.true_beq, Bool.false_beq, Tryz.underlying45]
      cases c3 : decide ((v.length : Int) > 120)
      · rw [c1, c2, c3] at hq1
        have hv : v.length ≤ 120 := by have := of_decide_eq_false c3; omega
        have hk32 : k.length ≤ 32 := by have := of_decide_eq_false c2; omega
        simp -dsimp only [Vm.E, List.lookup, Nat.reduceAdd, Nat.reduceBEq, Int.reduceBNe, Int.reduceBEq, Bool.true_beq, Bool.false_beq]
        refine draw_cont [] (.take 0 (.take 1 (.take 2 (.take 4 (.take 5 (.take 6 (.alt 3 (.alt 7 (.alt 8 (.alt 9 (.done) .stop) .stop) .stop) (.alt 7 (.alt 3 (.alt 8 (.alt 9 (.done) .stop) .stop) (.alt 8 (.alt 3 (.alt 9 (.done) .stop) .stop) (.stop))) (.stop))))))))) (fun s h' => isView h' V (upd f k (some v)) ∧ Same h h' [V.ic]) (by kernel_rfl) (by kernel_rfl) (by kernel_rfl) (by decide) ?_ ?_
        · simp -dsimp only [Vm.E, List.lookup, Nat.reduceAdd, Nat.reduceBEq, Int.reduceBNe, Int.reduceBEq, Bool.true_beq, Bool.false_beq, fo126_0, Tryz.underlying45, cs45]
          refine strOf_sl bt45 k rfl ?_
          simp -dsimp only [Vm.E, List.lookup, Nat.reduceAdd, Nat.reduceBEq, Int.reduceBNe, Int.reduceBEq, Bool.true_beq, Bool.false_beq]
          refine tree_alt ?_ (tree_alt ?_ trivial)
          · simp -dsimp only [Vm.E, List.lookup, Nat.reduceAdd, Nat.reduceBEq, Int.reduceBNe, Int.reduceBEq, Bool.true_beq, Bool.false_beq, h1, of123]
            refine call_one (S := cloneSpec) rfl _ GaL.rfl ⟨v, by omega, rfl, fun w hw => ?_⟩
            rcases clone_isB hw with ⟨rfl, hx'⟩ | ⟨rfl, hx'⟩
            · simp -dsimp only [Vm.E, List.lookup, Nat.reduceAdd, Nat.reduceBEq, Int.reduceBNe, Int.reduceBEq, Bool.true_beq, Bool.false_beq, h1, of123]
              refine build_intro fl134 z134 rfl rfl ?_
              simp -dsimp only [Vm.E, List.lookup, Nat.reduceAdd, Nat.reduceBEq, Int.reduceBNe, Int.reduceBEq, Bool.true_beq, Bool.false_beq, h1, of123]
              refine update_intro mt123 chg clk h2 trivial (keys_str fun e he => (h5.1 e he).1) ?_
              simp -dsimp only [Vm.E, List.lookup, Nat.reduceAdd, Nat.reduceBEq, Int.reduceBNe, Int.reduceBEq, Bool.true_beq, Bool.false_beq]
              exact ⟨isView.put (b := false) h1 h2 h3 h4 h5 h6 h7 hx' hv hk32, Same.set _ _ _⟩
            · simp -dsimp only [Vm.E, List.lookup, Nat.reduceAdd, Nat.reduceBEq, Int.reduceBNe, Int.reduceBEq, Bool.true_beq, Bool.false_beq, h1, of123]
              refine build_intro fl134 z134 rfl rfl ?_
              simp -dsimp only [Vm.E, List.lookup, Nat.reduceAdd, Nat.reduceBEq, Int.reduceBNe, Int.reduceBEq, Bool.true_beq, Bool.false_beq, h1, of123]
              refine update_intro mt123 chg clk h2 trivial (keys_str fun e he => (h5.1 e he).1) ?_
              simp -dsimp only [Vm.E, List.lookup, Nat.reduceAdd, Nat.reduceBEq, Int.reduceBNe, Int.reduceBEq, Bool.true_beq, Bool.false_beq]
              exact ⟨isView.put (b := false) h1 h2 h3 h4 h5 h6 h7 hx' hv hk32, Same.set _ _ _⟩
          · simp -dsimp only [Vm.E, List.lookup, Nat.reduceAdd, Nat.reduceBEq, Int.reduceBNe, Int.reduceBEq, Bool.true_beq, Bool.false_beq]
            refine call_one (S := cloneSpec) rfl _ GaL.rfl ⟨v, by omega, rfl, fun w hw => ?_⟩
            rcases clone_isB hw with ⟨rfl, hx'⟩ | ⟨rfl, hx'⟩
            · simp -dsimp only [Vm.E, List.lookup, Nat.reduceAdd, Nat.reduceBEq, Int.reduceBNe, Int.reduceBEq, Bool.true_beq, Bool.false_beq]
              refine tree_alt ?_ (tree_alt ?_ trivial)
              · simp -dsimp only [Vm.E, List.lookup, Nat.reduceAdd, Nat.reduceBEq, Int.reduceBNe, Int.reduceBEq, Bool.true_beq, Bool.false_beq, h1, of123]
                refine build_intro fl134 z134 rfl rfl ?_
                simp -dsimp only [Vm.E, List.lookup, Nat.reduceAdd, Nat.reduceBEq, Int.reduceBNe, Int.reduceBEq, Bool.true_beq, Bool.false_beq, h1, of123]
                refine update_intro mt123 chg clk h2 trivial (keys_str fun e he => (h5.1 e he).1) ?_
                simp -dsimp only [Vm.E, List.lookup, Nat.reduceAdd, Nat.reduceBEq, Int.reduceBNe, Int.reduceBEq, Bool.true_beq, Bool.false_beq]
                exact ⟨isView.put (b := false) h1 h2 h3 h4 h5 h6 h7 hx' hv hk32, Same.set _ _ _⟩
              · simp -dsimp only [Vm.E, List.lookup, Nat.reduceAdd, Nat.reduceBEq, Int.reduceBNe, Int.reduceBEq, Bool.true_beq, Bool.false_beq, h1, of123]
                refine build_intro fl134 z134 rfl rfl ?_
                simp -dsimp only [Vm.E, List.lookup, Nat.reduceAdd, Nat.reduceBEq, Int.reduceBNe, Int.reduceBEq, Bool.true_beq, Bool.false_beq, h1, of123]
                refine update_intro mt123 chg clk h2 trivial (keys_str fun e he => (h5.1 e he).1) ?_
                simp -dsimp only [Vm.E, List.lookup, Nat.reduceAdd, Nat.reduceBEq, Int.reduceBNe, Int.reduceBEq, Bool.true_beq, Bool.false_beq]
                exact ⟨isView.put (b := false) h1 h2 h3 h4 h5 h6 h7 hx' hv hk32, Same.set _ _ _⟩
            · simp -dsimp only [Vm.E, List.lookup, Nat.reduceAdd, Nat.reduceBEq, Int.reduceBNe, Int.reduceBEq, Bool.true_beq, Bool.false_beq]
              refine tree_alt ?_ (tree_alt ?_ trivial)
              · simp -dsimp only [Vm.E, List.lookup, Nat.reduceAdd, Nat.reduceBEq, Int.reduceBNe, Int.reduceBEq, Bool.true_beq, Bool.false_beq, h1, of123]
                refine build_intro fl134 z134 rfl rfl ?_
                simp -dsimp only [Vm.E, List.lookup, Nat.reduceAdd, Nat.reduceBEq, Int.reduceBNe, Int.reduceBEq, Bool.true_beq, Bool.false_beq, h1, of123]
                refine update_intro mt123 chg clk h2 trivial (keys_str fun e he => (h5.1 e he).1) ?_
                simp -dsimp only [Vm.E, List.lookup, Nat.reduceAdd, Nat.reduceBEq, Int.reduceBNe, Int.reduceBEq, Bool.true_beq, Bool.false_beq]
                exact ⟨isView.put (b := false) h1 h2 h3 h4 h5 h6 h7 hx' hv hk32, Same.set _ _ _⟩
              · simp -dsimp only [Vm.E, List.lookup, Nat.reduceAdd, Nat.reduceBEq, Int.reduceBNe, Int.reduceBEq, Bool.true_beq, Bool.false_beq, h1, of123]
                refine build_intro fl134 z134 rfl rfl ?_
                simp -dsimp only [Vm.E, List.lookup, Nat.reduceAdd, Nat.reduceBEq, Int.reduceBNe, Int.reduceBEq, Bool.true_beq, Bool.false_beq, h1, of123]
                refine update_intro mt123 chg clk h2 trivial (keys_str fun e he => (h5.1 e he).1) ?_
                simp -dsimp only [Vm.E, List.lookup, Nat.reduceAdd, Nat.reduceBEq, Int.reduceBNe, Int.reduceBEq, Bool.true_beq, Bool.false_beq]
                exact ⟨isView.put (b := false) h1 h2 h3 h4 h5 h6 h7 hx' hv hk32, Same.set _ _ _⟩
        · rintro s h' ⟨g1, g2⟩
          simp -dsimp only [Vm.E, List.lookup, Nat.reduceAdd, Nat.reduceBEq, Int.reduceBNe, Int.reduceBEq, Bool.true_beq, Bool.false_beq, Tryz.results21]
          exact hq1 rfl h' g1 g2
      · rw [c1, c2, c3] at hq2
        simp -dsimp only [Vm.E, List.lookup, Nat.reduceAdd, Nat.reduceBEq, Int.reduceBNe, Int.reduceBEq, Bool.true_beq, Bool.false_beq, Tryz.results21]
        exact hq2 rfl
    · rw [c1, c2] at hq2
      simp -dsimp only [Vm.E, List.lookup, Nat.reduceAdd, Nat.reduceBEq, Int.reduceBNe, Int.reduceBEq, Bool.true_beq, Bool.false_beq, Tryz.results21]
      exact hq2 rfl
  · rw [c1] at hq2
    simp -dsimp only [Vm.E, List.lookup, Nat.reduceAdd, Nat.reduceBEq, Int.reduceBNe, Int.reduceBEq, Bool.true_beq, Bool.false_beq, Tryz.results21]
    exact hq2 rfl

end Go.Proofs.Lx
