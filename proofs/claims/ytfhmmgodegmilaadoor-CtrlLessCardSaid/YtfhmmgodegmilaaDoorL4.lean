/- A view in memory: what it holds, and its calls. -/
import Derived.Test.YtfhmmgodegmilaaDoorL3
set_option linter.unusedSimpArgs false
set_option linter.unusedVariables false
namespace Go.Proofs
open Go.Vm
attribute [local irreducible] awpMake awpAppend awpCvX awpStrOf awpBinX awpSlice awpBS awpStore awpAlloc awpCopy awpIndex awpDraw awpIdxX awpFa awpField awpLookup awpUpdate awpDelete awpClear awpRange awpNext awpEntry awpBuild

/-- Bytes, nil or not. -/
def isB (x : AV) (l : List UInt8) : Prop := x = .sl 1 (l.map encB) ∨ (l = [] ∧ x = .v (.slice none 0 0))
theorem isB.ga {x : AV} {l : List UInt8} (h : isB x l) : Ga x (.sl 1 (l.map encB)) := by
  rcases h with rfl | ⟨rfl, rfl⟩
  · exact .refl _
  · exact .nil 1
def unB : AV → UInt8
  | .v (.int _ n) => UInt8.ofNat n.toNat
  | _ => 0
theorem unB_encB (b : UInt8) : unB (encB b) = b := by simp [unB, encB]
def bytesOf : AV → List UInt8
  | .sl _ xs => xs.map unB
  | _ => []
theorem bytesOf_isB {x : AV} {l : List UInt8} (h : isB x l) : bytesOf x = l := by
  rcases h with rfl | ⟨rfl, rfl⟩
  · simp [bytesOf, Function.comp_def, unB_encB]
  · rfl
/-- What a change says of its key. -/
def shapeOf : AV → Option (List UInt8)
  | .agg [x, .v (.bool false)] => some (bytesOf x)
  | _ => none
def strK (k : List UInt8) : Value := .string ⟨k.toArray⟩
/-- What a key has, by the changes and what lies beneath. -/
def nowOf (chg mem : List Ent) (k : List UInt8) : Option (List UInt8) :=
  match mget (strK k) chg with
  | some e => shapeOf e.val
  | none => (mget (strK k) mem).map fun e => bytesOf e.val

def WfC (e : Ent) : Prop := (∃ k, e.key = strK k) ∧ ∃ x l b, isB x l ∧ l.length ≤ 120 ∧ e.val = .agg [x, .v (.bool b)]
def WfM (e : Ent) : Prop := (∃ k, e.key = strK k) ∧ ∃ l, isB e.val l ∧ l.length ≤ 120
def Born (es : List Ent) (clock : Nat) : Prop := (es.map (·.born)).Nodup ∧ ∀ e ∈ es, e.born < clock

structure VId where
  iv : Nat
  ic : Nat
  im : Nat

/-- A view in memory that has no error: what each key has. -/
def isView (h : Heap) (V : VId) (f : List UInt8 → Option (List UInt8)) : Prop :=
  ∃ chg clk mem clk2, h[V.iv]? = some (.cells [.mp V.ic, .v (.pointer none), .mp V.im, .v (.int .i64 0)]) ∧ h[V.ic]? = some (.map chg clk) ∧ h[V.im]? = some (.map mem clk2) ∧
    (V.iv ≠ V.ic ∧ V.iv ≠ V.im ∧ V.ic ≠ V.im) ∧ ((∀ e ∈ chg, WfC e) ∧ ∀ e ∈ mem, WfM e) ∧ (Born chg clk ∧ Born mem clk2) ∧ ∀ k, f k = nowOf chg mem k

def Same (h h' : Heap) (fp : List Nat) : Prop := h.length ≤ h'.length ∧ ∀ i, i < h.length → i ∉ fp → h'[i]? = h[i]?

/-! The entries behind a store. -/
theorem strK_inj {a b : List UInt8} (h : strK a = strK b) : a = b := by
  unfold strK at h; simpa using h
theorem keyEq_str (a b : List UInt8) : keyEq (strK a) (strK b) = (a == b) := by
  have h1 := keyEq_iff (d := .string) (x := strK a) (y := strK b) trivial trivial
  cases h : keyEq (strK a) (strK b)
  · have : ¬ a = b := fun e => by rw [h1.2 (by rw [e])] at h; cases h
    simpa using this
  · have := strK_inj (h1.1 h)
    simp [this]

theorem mget_mput {v : AV} {c : Nat} (k k' : List UInt8) : ∀ {es : List Ent}, (∀ e ∈ es, ∃ k, e.key = strK k) →
    (mget (strK k') (mput (strK k) v c es)).map Ent.val = if k' = k then some v else (mget (strK k') es).map Ent.val
  | [], _ => by
    simp only [mput, mget, List.find?_cons, List.find?_nil, keyEq_str]
    by_cases h : k' = k
    · simp [h]
    · have h4 : (k' == k) = false := by simpa using h
      simp [h, h4]
  | e :: es, hk => by
    obtain ⟨q, hq⟩ := hk e (List.mem_cons_self ..)
    simp only [mput, hq, keyEq_str]
    by_cases h1 : k = q
    · subst h1
      simp only [beq_self_eq_true, if_true, mget, List.find?_cons, keyEq_str, hq]
      by_cases h : k' = k
      · simp [h]
      · have h4 : (k' == k) = false := by simpa using h
        simp [h, h4]
    · have h2 : (k == q) = false := by simpa using h1
      simp only [h2, Bool.false_eq_true, if_false, mget, List.find?_cons, hq, keyEq_str]
      by_cases h3 : k' = q
      · have : ¬ k' = k := fun e => h1 (e.symm.trans h3)
        simp [h3, Ne.symm h1]
      · have h4 : (k' == q) = false := by simpa using h3
        simp only [h4]
        exact mget_mput k k' fun e he => hk e (List.mem_cons_of_mem _ he)

theorem mget_mem {k : Value} {es : List Ent} {e : Ent} (h : mget k es = some e) : e ∈ es := List.mem_of_find?_eq_some h

theorem mput_mem {k : Value} {v : AV} {c : Nat} : ∀ {es : List Ent} {e : Ent}, e ∈ mput k v c es → e ∈ es ∨ (e.key = k ∧ e.val = v)
  | [], e, h => by
    simp only [mput, List.mem_singleton] at h
    subst h; exact .inr ⟨rfl, rfl⟩
  | x :: es, e, h => by
    simp only [mput] at h
    split at h
    · rcases List.mem_cons.1 h with rfl | h
      · exact .inr ⟨rfl, rfl⟩
      · exact .inl (List.mem_cons_of_mem _ h)
    · rcases List.mem_cons.1 h with rfl | h
      · exact .inl (List.mem_cons_self ..)
      · rcases mput_mem h with h | h
        · exact .inl (List.mem_cons_of_mem _ h)
        · exact .inr h

theorem mput_born {k : Value} {v : AV} {c : Nat} : ∀ {es : List Ent}, (mput k v c es).map (·.born) = es.map (·.born) ∨ ((mget k es) = none ∧ (mput k v c es).map (·.born) = es.map (·.born) ++ [c])
  | [] => .inr ⟨rfl, rfl⟩
  | x :: es => by
    simp only [mput, mget, List.find?_cons]
    cases hx : keyEq k x.key
    · rcases mput_born (k := k) (v := v) (c := c) (es := es) with h | ⟨h1, h2⟩
      · left; simp [h]
      · right; exact ⟨h1, by simp [h2]⟩
    · left; simp

theorem Born.put {k : Value} {v : AV} {c : Nat} {es : List Ent} (h : Born es c) : Born (mput k v c es) (mclk k es c) := by
  have hb : ∀ b ∈ es.map (·.born), b < c := fun b hb => by obtain ⟨e, he, rfl⟩ := List.mem_map.1 hb; exact h.2 e he
  have hc : c ≤ mclk k es c := by unfold mclk; split <;> omega
  rcases mput_born (k := k) (v := v) (c := c) (es := es) with h1 | ⟨h1, h2⟩
  · exact ⟨by rw [h1]; exact h.1, fun e he => Nat.lt_of_lt_of_le (hb _ (h1 ▸ List.mem_map_of_mem he)) hc⟩
  · have h3 : mclk k es c = c + 1 := by simp [mclk, h1]
    refine ⟨?_, fun e he => ?_⟩
    · rw [h2, List.nodup_append]
      refine ⟨h.1, by simp, fun a ha b hb' => ?_⟩
      simp only [List.mem_singleton] at hb'
      have := hb a ha
      omega
    · have : e.born ∈ es.map (·.born) ++ [c] := h2 ▸ List.mem_map_of_mem he
      rw [h3]
      rcases List.mem_append.1 this with h4 | h4
      · have := hb _ h4; omega
      · simp only [List.mem_singleton] at h4; omega

/-- What each key has behind a store. -/
def upd (f : List UInt8 → Option (List UInt8)) (k : List UInt8) (v : Option (List UInt8)) : List UInt8 → Option (List UInt8) := fun x => if x = k then v else f x

theorem isView.put {h : Heap} {V : VId} {f : List UInt8 → Option (List UInt8)} {chg mem : List Ent} {clk clk2 : Nat} {k l : List UInt8} {x : AV} {b : Bool}
    (h1 : h[V.iv]? = some (.cells [.mp V.ic, .v (.pointer none), .mp V.im, .v (.int .i64 0)])) (h2 : h[V.ic]? = some (.map chg clk)) (h3 : h[V.im]? = some (.map mem clk2))
    (h4 : V.iv ≠ V.ic ∧ V.iv ≠ V.im ∧ V.ic ≠ V.im) (h5 : (∀ e ∈ chg, WfC e) ∧ ∀ e ∈ mem, WfM e) (h6 : Born chg clk ∧ Born mem clk2) (h7 : ∀ k, f k = nowOf chg mem k) (hx : isB x l) (hl : l.length ≤ 120) :
    isView (h.set V.ic (.map (mput (strK k) (.agg [x, .v (.bool b)]) clk chg) (mclk (strK k) chg clk))) V (upd f k (if b then none else some l)) := by
  have hlt : V.ic < h.length := by
    rcases Nat.lt_or_ge V.ic h.length with h' | h'
    · exact h'
    · rw [List.getElem?_eq_none h'] at h2; cases h2
  refine ⟨mput (strK k) (.agg [x, .v (.bool b)]) clk chg, mclk (strK k) chg clk, mem, clk2, ?_, ?_, ?_, h4, ⟨fun e he => ?_, h5.2⟩, ⟨h6.1.put, h6.2⟩, fun q => ?_⟩
  · rw [List.getElem?_set_ne h4.1.symm]; exact h1
  · rw [List.getElem?_set_self hlt]
  · rw [List.getElem?_set_ne h4.2.2]; exact h3
  · rcases mput_mem he with h' | ⟨q1, q2⟩
    · exact h5.1 e h'
    · exact ⟨⟨k, q1⟩, x, l, b, hx, hl, q2⟩
  · have hg := mget_mput (v := .agg [x, .v (.bool b)]) (c := clk) k q (es := chg) (fun e he => (h5.1 e he).1)
    unfold upd nowOf
    cases hm : mget (strK q) (mput (strK k) (.agg [x, .v (.bool b)]) clk chg) with
    | none =>
      rw [hm] at hg
      by_cases hq : q = k
      · rw [if_pos hq] at hg; cases hg
      · rw [if_neg hq] at hg ⊢
        have : mget (strK q) chg = none := by
          cases h' : mget (strK q) chg
          · rfl
          · rw [h'] at hg; cases hg
        rw [h7, nowOf, this]
    | some e =>
      rw [hm] at hg
      by_cases hq : q = k
      · rw [if_pos hq] at hg ⊢
        simp only [Option.map_some, Option.some.injEq] at hg
        simp only [hg, shapeOf]
        cases b
        · simp [shapeOf, bytesOf_isB hx]
        · simp [shapeOf]
      · rw [if_neg hq] at hg ⊢
        rw [h7, nowOf]
        cases h' : mget (strK q) chg with
        | none => rw [h'] at hg; cases hg
        | some e' =>
          rw [h'] at hg
          simp only [Option.map_some, Option.some.injEq] at hg
          simp only [hg]

end Go.Proofs
