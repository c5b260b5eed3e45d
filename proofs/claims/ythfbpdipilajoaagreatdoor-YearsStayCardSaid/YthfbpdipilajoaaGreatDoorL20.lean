/- What a view's pairs are: plain laws. -/
import Derived.Test.YthfbpdipilajoaaGreatDoorL19
set_option linter.unusedSimpArgs false
set_option linter.unusedVariables false
namespace Go.Proofs.Lx
open Go.Vm

theorem mget_iff {es : List Ent} (hk : ∀ e ∈ es, ∃ k, e.key = strK k) (hn : (es.map kOf).Nodup) {k : List UInt8} {e : Ent} : mget (strK k) es = some e ↔ e ∈ es ∧ kOf e = k := by
  constructor
  · intro h
    have hm := mget_mem h
    obtain ⟨q, hq⟩ := hk e hm
    have := List.find?_some (p := fun (e : Ent) => keyEq (strK k) e.key) h
    rw [hq, keyEq_str] at this
    exact ⟨hm, by rw [kOf_eq hq]; exact (by simpa using this : k = q).symm⟩
  · rintro ⟨hm, hke⟩
    cases hf : mget (strK k) es with
    | none =>
      have := List.find?_eq_none.1 hf e hm
      obtain ⟨q, hq⟩ := hk e hm
      rw [hq, keyEq_str, ← hke, kOf_eq hq] at this
      simp at this
    | some e' =>
      have hm' := mget_mem hf
      obtain ⟨q, hq⟩ := hk e' hm'
      have := List.find?_some (p := fun (e : Ent) => keyEq (strK k) e.key) hf
      rw [hq, keyEq_str] at this
      have hkq : k = q := by simpa using this
      rw [inj_of_map hn hm hm' (by rw [hke, kOf_eq hq]; exact hkq)]
theorem mget_some {es : List Ent} (hk : ∀ e ∈ es, ∃ k, e.key = strK k) (hn : (es.map kOf).Nodup) {k : List UInt8} : (mget (strK k) es).isSome = true ↔ k ∈ es.map kOf := by
  constructor
  · intro h
    obtain ⟨e, he⟩ := Option.isSome_iff_exists.1 h
    obtain ⟨h1, h2⟩ := (mget_iff hk hn).1 he
    rw [← h2]; exact List.mem_map_of_mem h1
  · intro h
    obtain ⟨e, h1, h2⟩ := List.mem_map.1 h
    rw [(mget_iff hk hn).2 ⟨h1, h2⟩]; rfl

def valC (e : Ent) : AV := match e.val with
  | .agg [x, _] => x
  | _ => .any
def goneC (e : Ent) : Bool := match e.val with
  | .agg [_, .v (.bool b)] => b
  | _ => true
def kvC (e : Ent) : KV := (kOf e, bytesOf (valC e))
theorem shape_C {e : Ent} (h : WfC e) : shapeOf e.val = if goneC e then none else some (kvC e).2 := by
  obtain ⟨-, x, l, b, -, -, hv⟩ := h
  unfold goneC kvC valC
  rw [hv]
  cases b <;> simp [shapeOf]

abbrev keyLt (a b : KV) : Prop := Lib.compareBytes a.1 b.1 < 0
/-- The pairs of a view whose keys begin so. -/
def ScanIs (f : Fun) (pre : List UInt8) (l : List KV) : Prop := l.Pairwise keyLt ∧ ∀ k v, (k, v) ∈ l ↔ f k = some v ∧ pre.isPrefixOf k = true

section
variable {chg mem : List Ent} {clk clk2 : Nat} {pre : List UInt8} {l0 : List KV} {D : List Ent}
abbrev scanL (chg : List Ent) (pre : List UInt8) (l0 : List KV) (D : List Ent) : List KV := (l0.filter fun p => !(mget (strK p.1) chg).isSome) ++ (D.filter fun e => !goneC e && pre.isPrefixOf (kOf e)).map kvC

theorem scan_keys (hc : ∀ e ∈ chg, WfC e) (bc : Born chg clk) (bm : Born mem clk2) (hl0 : l0.Perm ((mem.filter fun e => pre.isPrefixOf (kOf e)).map kvE)) (hD : D.Perm chg) : ((scanL chg pre l0 D).map Prod.fst).Nodup := by
  have hkc : ∀ e ∈ chg, ∃ k, e.key = strK k := fun e he => (hc e he).1
  rw [List.map_append, List.nodup_append]
  refine ⟨?_, ?_, ?_⟩
  · have h1 : (l0.map Prod.fst).Nodup := by
      refine (hl0.map Prod.fst).nodup_iff.2 ?_
      rw [List.map_map]
      have : ((mem.filter fun e => pre.isPrefixOf (kOf e)).map (Prod.fst ∘ kvE)) = (mem.filter fun e => pre.isPrefixOf (kOf e)).map kOf := by apply List.map_congr_left; intro e _; rfl
      rw [this]
      exact (List.filter_sublist.map kOf).nodup bm.1.2
    exact (List.filter_sublist.map Prod.fst).nodup h1
  · rw [List.map_map]
    have : ((D.filter fun e => !goneC e && pre.isPrefixOf (kOf e)).map (Prod.fst ∘ kvC)) = (D.filter fun e => !goneC e && pre.isPrefixOf (kOf e)).map kOf := by apply List.map_congr_left; intro e _; rfl
    rw [this]
    exact (List.filter_sublist.map kOf).nodup ((hD.map kOf).nodup_iff.2 bc.1.2)
  · intro a ha b hb hab
    subst hab
    obtain ⟨p, hp, rfl⟩ := List.mem_map.1 ha
    have hp2 := (List.mem_filter.1 hp).2
    obtain ⟨q, hq, hqe⟩ := List.mem_map.1 hb
    obtain ⟨e, he, rfl⟩ := List.mem_map.1 hq
    have hec : e ∈ chg := hD.mem_iff.1 (List.mem_filter.1 he).1
    have hke : kOf e = p.1 := hqe
    have : (mget (strK p.1) chg).isSome = true := (mget_some hkc bc.1.2).2 (hke ▸ List.mem_map_of_mem hec)
    rw [this] at hp2; cases hp2

theorem scan_law (hc : ∀ e ∈ chg, WfC e) (hm : ∀ e ∈ mem, WfM e) (bc : Born chg clk) (bm : Born mem clk2) {f : Fun} (h7 : ∀ k, f k = nowOf chg mem k) (hl0 : l0.Perm ((mem.filter fun e => pre.isPrefixOf (kOf e)).map kvE)) (hD : D.Perm chg)
    {l' : List KV} (hp : l'.Perm (scanL chg pre l0 D)) (hs : l'.Pairwise keyLt) : ScanIs f pre l' := by
  have hkc : ∀ e ∈ chg, ∃ k, e.key = strK k := fun e he => (hc e he).1
  have hkm : ∀ e ∈ mem, ∃ k, e.key = strK k := fun e he => (hm e he).1
  refine ⟨hs, fun k v => ?_⟩
  rw [hp.mem_iff, List.mem_append, h7, nowOf]
  constructor
  · rintro (h | h)
    · obtain ⟨h1, h2⟩ := List.mem_filter.1 h
      obtain ⟨e, he, hkv⟩ := List.mem_map.1 (hl0.mem_iff.1 h1)
      obtain ⟨h3, h4⟩ := List.mem_filter.1 he
      simp only [kvE, Prod.mk.injEq] at hkv
      have hno : mget (strK k) chg = none := by
        cases hx : mget (strK k) chg with
        | none => rfl
        | some x => rw [show mget (strK (k, v).1) chg = some x from hx] at h2; cases h2
      rw [hno]
      refine ⟨?_, by rw [← hkv.1]; exact h4⟩
      simp only
      rw [(mget_iff hkm bm.1.2).2 ⟨h3, hkv.1⟩]
      simp [hkv.2]
    · obtain ⟨e, he, hkv⟩ := List.mem_map.1 h
      obtain ⟨h3, h4⟩ := List.mem_filter.1 he
      have hec := hD.mem_iff.1 h3
      simp only [Bool.and_eq_true, Bool.not_eq_true'] at h4
      have hk : kOf e = k := congrArg Prod.fst hkv
      have hv : (kvC e).2 = v := congrArg Prod.snd hkv
      rw [(mget_iff hkc bc.1.2).2 ⟨hec, hk⟩]
      refine ⟨?_, by rw [← hk]; exact h4.2⟩
      simp only
      rw [shape_C (hc e hec), h4.1, hv]; rfl
  · rintro ⟨h1, h2⟩
    cases hx : mget (strK k) chg with
    | none =>
      rw [hx] at h1
      simp only at h1
      cases hy : mget (strK k) mem with
      | none => rw [hy] at h1; cases h1
      | some e =>
        rw [hy] at h1
        simp only [Option.map_some, Option.some.injEq] at h1
        obtain ⟨h3, h4⟩ := (mget_iff hkm bm.1.2).1 hy
        refine .inl (List.mem_filter.2 ⟨hl0.mem_iff.2 (List.mem_map.2 ⟨e, List.mem_filter.2 ⟨h3, by rw [h4]; exact h2⟩, by simp [kvE, h4, h1]⟩), ?_⟩)
        show (!(mget (strK k) chg).isSome) = true
        rw [hx]; rfl
    | some e =>
      rw [hx] at h1
      simp only at h1
      obtain ⟨h3, h4⟩ := (mget_iff hkc bc.1.2).1 hx
      rw [shape_C (hc e h3)] at h1
      cases hg : goneC e
      · rw [hg] at h1
        simp only [Bool.false_eq_true, if_false, Option.some.injEq] at h1
        exact .inr (List.mem_map.2 ⟨e, List.mem_filter.2 ⟨hD.mem_iff.2 h3, by rw [hg, h4, h2]; rfl⟩, by rw [← h1, ← h4]; rfl⟩)
      · rw [hg] at h1; simp at h1
end

end Go.Proofs.Lx
