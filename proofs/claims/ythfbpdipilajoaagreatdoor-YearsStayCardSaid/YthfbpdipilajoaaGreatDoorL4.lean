/- A view in memory: what it holds, and its calls. -/
import Derived.Test.YthfbpdipilajoaaGreatDoorL3
set_option linter.unusedSimpArgs false
set_option linter.unusedVariables false
namespace Go.Proofs.Lx
open Go.Vm
attribute [local irreducible] awpMake awpAppend awpCvX awpStrOf awpBinX awpSlice awpBS awpStore awpAlloc awpCopy awpIndex awpDraw awpIdxX awpFa awpField awpLookup awpUpdate awpDelete awpClear awpRange awpNext awpEntry awpBuild

/-- Bytes, nil or not. -/
def isB (x : AV) (l : List UInt8) : Prop := x = .sl 1 (l.map encB) ∨ (l = [] ∧ x = .v (.slice none 0 0))
theorem isB.ga {x : AV} {l : List UInt8} (h : isB x l) : Ga x (.sl 1 (l.map encB)) := by
  rcases h with rfl | ⟨rfl, rfl⟩
  · exact .refl _
  · exact .nil 1
def unB : AV → UInt8
  | .v (.int _ n) => UInt8.ofNat n.toNat
  | _ => 0
theorem unB_encB (b : UInt8) : unB (encB b) = b := by simp [unB, encB]
def bytesOf : AV → List UInt8
  | .sl _ xs => xs.map unB
  | _ => []
theorem bytesOf_isB {x : AV} {l : List UInt8} (h : isB x l) : bytesOf x = l := by
  rcases h with rfl | ⟨rfl, rfl⟩
  · simp [bytesOf, Function.comp_def, unB_encB]
  · rfl
/-- What a change says of its key. -/
def shapeOf : AV → Option (List UInt8)
  | .agg [x, .v (.bool false)] => some (bytesOf x)
  | _ => none
def strK (k : List UInt8) : Value := .string ⟨k.toArray⟩
/-- What a key has, by the changes and what lies beneath. -/
def nowOf (chg mem : List Ent) (k : List UInt8) : Option (List UInt8) :=
  match mget (strK k) chg with
  | some e => shapeOf e.val
  | none => (mget (strK k) mem).map fun e => bytesOf e.val

def WfC (e : Ent) : Prop := (∃ k, e.key = strK k) ∧ ∃ x l b, isB x l ∧ l.length ≤ 120 ∧ e.val = .agg [x, .v (.bool b)]
def WfM (e : Ent) : Prop := (∃ k, e.key = strK k) ∧ ∃ l, isB e.val l ∧ l.length ≤ 120
/-- An entry's key, its value. -/
def kOf (e : Ent) : List UInt8 := match e.key with
  | .string b => b.data.toList
  | _ => []
theorem kOf_eq {e : Ent} {k : List UInt8} (h : e.key = strK k) : kOf e = k := by unfold kOf; rw [h]; rfl
def Born (es : List Ent) (clock : Nat) : Prop := ((es.map (·.born)).Nodup ∧ (es.map kOf).Nodup) ∧ ∀ e ∈ es, e.born < clock

structure VId where
  iv : Nat
  ic : Nat
  im : Nat

/-- What each key has; how many changes there were at most. -/
structure Fun where
  f : List UInt8 → Option (List UInt8)
  n : Nat
instance : CoeFun Fun fun _ => List UInt8 → Option (List UInt8) := ⟨Fun.f⟩
def noF : Fun := ⟨fun _ => none, 0⟩

/-- A view in memory that has no error: what each key has. -/
def isView (h : Heap) (V : VId) (f : Fun) : Prop :=
  ∃ chg clk mem clk2, h[V.iv]? = some (.cells [.mp V.ic, .v (.pointer none), .mp V.im, .v (.int .i64 0)]) ∧ h[V.ic]? = some (.map chg clk) ∧ h[V.im]? = some (.map mem clk2) ∧
    (V.iv ≠ V.ic ∧ V.iv ≠ V.im ∧ V.ic ≠ V.im) ∧ ((∀ e ∈ chg, WfC e) ∧ ∀ e ∈ mem, WfM e) ∧ (Born chg clk ∧ Born mem clk2) ∧ (∀ k, f k = nowOf chg mem k) ∧ (chg.length ≤ f.n ∧ mem.length ≤ f.n) ∧ ∀ e, e ∈ chg ∨ e ∈ mem → (kOf e).length ≤ 32

def Same (h h' : Heap) (fp : List Nat) : Prop := h.length ≤ h'.length ∧ ∀ i, i < h.length → i ∉ fp → h'[i]? = h[i]?

/-! The entries behind a store. -/
theorem strK_inj {a b : List UInt8} (h : strK a = strK b) : a = b := by
  unfold strK at h; simpa using h
theorem keyEq_str (a b : List UInt8) : keyEq (strK a) (strK b) = (a == b) := by
  have h1 := keyEq_iff (d := .string) (x := strK a) (y := strK b) trivial trivial
  cases h : keyEq (strK a) (strK b)
  · have : ¬ a = b := fun e => by rw [h1.2 (by rw [e])] at h; cases h
    simpa using this
  · have := strK_inj (h1.1 h)
    simp [this]

theorem mget_mput {v : AV} {c : Nat} (k k' : List UInt8) : ∀ {es : List Ent}, (∀ e ∈ es, ∃ k, e.key = strK k) →
    (mget (strK k') (mput (strK k) v c es)).map Ent.val = if k' = k then some v else (mget (strK k') es).map Ent.val
  | [], _ => by
    simp only [mput, mget, List.find?_cons, List.find?_nil, keyEq_str]
    by_cases h : k' = k
    · simp [h]
    · have h4 : (k' == k) = false := by simpa using h
      simp [h, h4]
  | e :: es, hk => by
    obtain ⟨q, hq⟩ := hk e (List.mem_cons_self ..)
    simp only [mput, hq, keyEq_str]
    by_cases h1 : k = q
    · subst h1
      simp only [beq_self_eq_true, if_true, mget, List.find?_cons, keyEq_str, hq]
      by_cases h : k' = k
      · simp [h]
      · have h4 : (k' == k) = false := by simpa using h
        simp [h, h4]
    · have h2 : (k == q) = false := by simpa using h1
      simp only [h2, Bool.false_eq_true, if_false, mget, List.find?_cons, hq, keyEq_str]
      by_cases h3 : k' = q
      · have : ¬ k' = k := fun e => h1 (e.symm.trans h3)
        simp [h3, Ne.symm h1]
      · have h4 : (k' == q) = false := by simpa using h3
        simp only [h4]
        exact mget_mput k k' fun e he => hk e (List.mem_cons_of_mem _ he)

theorem mget_mem {k : Value} {es : List Ent} {e : Ent} (h : mget k es = some e) : e ∈ es := List.mem_of_find?_eq_some h

theorem mput_mem {k : Value} {v : AV} {c : Nat} : ∀ {es : List Ent} {e : Ent}, e ∈ mput k v c es → e ∈ es ∨ (e.key = k ∧ e.val = v)
  | [], e, h => by
    simp only [mput, List.mem_singleton] at h
    subst h; exact .inr ⟨rfl, rfl⟩
  | x :: es, e, h => by
    simp only [mput] at h
    split at h
    · rcases List.mem_cons.1 h with rfl | h
      · exact .inr ⟨rfl, rfl⟩
      · exact .inl (List.mem_cons_of_mem _ h)
    · rcases List.mem_cons.1 h with rfl | h
      · exact .inl (List.mem_cons_self ..)
      · rcases mput_mem h with h | h
        · exact .inl (List.mem_cons_of_mem _ h)
        · exact .inr h

theorem mput_born {k : Value} {v : AV} {c : Nat} : ∀ {es : List Ent}, (mput k v c es).map (·.born) = es.map (·.born) ∨ ((mget k es) = none ∧ (mput k v c es).map (·.born) = es.map (·.born) ++ [c])
  | [] => .inr ⟨rfl, rfl⟩
  | x :: es => by
    simp only [mput, mget, List.find?_cons]
    cases hx : keyEq k x.key
    · rcases mput_born (k := k) (v := v) (c := c) (es := es) with h | ⟨h1, h2⟩
      · left; simp [h]
      · right; exact ⟨h1, by simp [h2]⟩
    · left; simp

theorem mput_keys {q : List UInt8} {v : AV} {c : Nat} : ∀ {es : List Ent}, (∀ e ∈ es, ∃ k, e.key = strK k) → (mput (strK q) v c es).map kOf = es.map kOf ∨ (q ∉ es.map kOf ∧ (mput (strK q) v c es).map kOf = es.map kOf ++ [q])
  | [], _ => .inr ⟨by simp, by simp [mput, kOf, strK]⟩
  | x :: es, hk => by
    obtain ⟨kx, hx⟩ := hk x (List.mem_cons_self ..)
    have hkx : kOf x = kx := kOf_eq hx
    simp only [mput]
    rw [hx, keyEq_str]
    by_cases hq : q = kx
    · left
      subst hq
      have e1 : kOf ⟨strK q, v, x.born⟩ = kOf x := by rw [hkx]; exact kOf_eq rfl
      simp [e1]
    · have hq' : (q == kx) = false := by simpa using hq
      rw [hq']
      simp only [Bool.false_eq_true, if_false, List.map_cons]
      rcases mput_keys (q := q) (v := v) (c := c) (es := es) (fun e he => hk e (List.mem_cons_of_mem _ he)) with h | ⟨h1, h2⟩
      · left; rw [h]
      · right
        refine ⟨?_, by rw [h2]; rfl⟩
        simp only [List.mem_cons, not_or]
        exact ⟨by rw [hkx]; exact hq, h1⟩

theorem Born.put {q : List UInt8} {v : AV} {c : Nat} {es : List Ent} (h : Born es c) (hk : ∀ e ∈ es, ∃ k, e.key = strK k) : Born (mput (strK q) v c es) (mclk (strK q) es c) := by
  have hkeys : ((mput (strK q) v c es).map kOf).Nodup := by
    rcases mput_keys (q := q) (v := v) (c := c) hk with h' | ⟨h1, h2⟩
    · rw [h']; exact h.1.2
    · rw [h2, List.nodup_append]
      exact ⟨h.1.2, by simp, fun a ha b hb => by simp only [List.mem_singleton] at hb; subst hb; intro e; exact h1 (e ▸ ha)⟩
  generalize strK q = k at hkeys ⊢
  have hb : ∀ b ∈ es.map (·.born), b < c := fun b hb => by obtain ⟨e, he, rfl⟩ := List.mem_map.1 hb; exact h.2 e he
  have hc : c ≤ mclk k es c := by unfold mclk; split <;> omega
  rcases mput_born (k := k) (v := v) (c := c) (es := es) with h1 | ⟨h1, h2⟩
  · exact ⟨⟨by rw [h1]; exact h.1.1, hkeys⟩, fun e he => Nat.lt_of_lt_of_le (hb _ (h1 ▸ List.mem_map_of_mem he)) hc⟩
  · have h3 : mclk k es c = c + 1 := by simp [mclk, h1]
    refine ⟨⟨?_, hkeys⟩, fun e he => ?_⟩
    · rw [h2, List.nodup_append]
      refine ⟨h.1.1, by simp, fun a ha b hb' => ?_⟩
      simp only [List.mem_singleton] at hb'
      have := hb a ha
      omega
    · have : e.born ∈ es.map (·.born) ++ [c] := h2 ▸ List.mem_map_of_mem he
      rw [h3]
      rcases List.mem_append.1 this with h4 | h4
      · have := hb _ h4; omega
      · simp only [List.mem_singleton] at h4; omega

/-- What each key has behind a store. -/
def upd (f : Fun) (k : List UInt8) (v : Option (List UInt8)) : Fun := ⟨fun x => if x = k then v else f x, f.n + 1⟩

theorem upd_app (f : Fun) (k : List UInt8) (v : Option (List UInt8)) (q : List UInt8) : upd f k v q = if q = k then v else f q := rfl
theorem mput_length {k : Value} {v : AV} {c : Nat} : ∀ es : List Ent, (mput k v c es).length ≤ es.length + 1
  | [] => by simp [mput]
  | x :: es => by
    simp only [mput]
    split
    · simp
    · simpa using mput_length es

theorem isView.put {h : Heap} {V : VId} {f : Fun} {chg mem : List Ent} {clk clk2 : Nat} {k l : List UInt8} {x : AV} {b : Bool}
    (h1 : h[V.iv]? = some (.cells [.mp V.ic, .v (.pointer none), .mp V.im, .v (.int .i64 0)])) (h2 : h[V.ic]? = some (.map chg clk)) (h3 : h[V.im]? = some (.map mem clk2))
    (h4 : V.iv ≠ V.ic ∧ V.iv ≠ V.im ∧ V.ic ≠ V.im) (h5 : (∀ e ∈ chg, WfC e) ∧ ∀ e ∈ mem, WfM e) (h6 : Born chg clk ∧ Born mem clk2) (h7 : (∀ k, f k = nowOf chg mem k) ∧ (chg.length ≤ f.n ∧ mem.length ≤ f.n) ∧ ∀ e, e ∈ chg ∨ e ∈ mem → (kOf e).length ≤ 32) (hx : isB x l) (hl : l.length ≤ 120) (hk32 : k.length ≤ 32) :
    isView (h.set V.ic (.map (mput (strK k) (.agg [x, .v (.bool b)]) clk chg) (mclk (strK k) chg clk))) V (upd f k (if b then none else some l)) := by
  have hlt : V.ic < h.length := by
    rcases Nat.lt_or_ge V.ic h.length with h' | h'
    · exact h'
    · rw [List.getElem?_eq_none h'] at h2; cases h2
  refine ⟨mput (strK k) (.agg [x, .v (.bool b)]) clk chg, mclk (strK k) chg clk, mem, clk2, ?_, ?_, ?_, h4, ⟨fun e he => ?_, h5.2⟩, ⟨h6.1.put fun e he => (h5.1 e he).1, h6.2⟩, fun q => ?_, ⟨?_, Nat.le_succ_of_le h7.2.1.2⟩, fun e he => ?_⟩
  · rw [List.getElem?_set_ne h4.1.symm]; exact h1
  · rw [List.getElem?_set_self hlt]
  · rw [List.getElem?_set_ne h4.2.2]; exact h3
  · rcases mput_mem he with h' | ⟨q1, q2⟩
    · exact h5.1 e h'
    · exact ⟨⟨k, q1⟩, x, l, b, hx, hl, q2⟩
  · have hg := mget_mput (v := .agg [x, .v (.bool b)]) (c := clk) k q (es := chg) (fun e he => (h5.1 e he).1)
    show (if q = k then (if b then none else some l) else f q) = _
    unfold nowOf
    cases hm : mget (strK q) (mput (strK k) (.agg [x, .v (.bool b)]) clk chg) with
    | none =>
      rw [hm] at hg
      by_cases hq : q = k
      · rw [if_pos hq] at hg; cases hg
      · rw [if_neg hq] at hg ⊢
        have : mget (strK q) chg = none := by
          cases h' : mget (strK q) chg
          · rfl
          · rw [h'] at hg; cases hg
        rw [h7.1, nowOf, this]
    | some e =>
      rw [hm] at hg
      by_cases hq : q = k
      · rw [if_pos hq] at hg ⊢
        simp only [Option.map_some, Option.some.injEq] at hg
        simp only [hg, shapeOf]
        cases b
        · simp [shapeOf, bytesOf_isB hx]
        · simp [shapeOf]
      · rw [if_neg hq] at hg ⊢
        rw [h7.1, nowOf]
        cases h' : mget (strK q) chg with
        | none => rw [h'] at hg; cases hg
        | some e' =>
          rw [h'] at hg
          simp only [Option.map_some, Option.some.injEq] at hg
          simp only [hg]
  · exact Nat.le_trans (mput_length chg) (Nat.succ_le_succ h7.2.1.1)
  · rcases he with he | he
    · rcases mput_mem he with h' | ⟨q1, q2⟩
      · exact h7.2.2 e (.inl h')
      · rw [kOf_eq q1]; exact hk32
    · exact h7.2.2 e (.inr he)

end Go.Proofs.Lx
