/- What the functions of the program do: their contracts. -/
import Derived.Test.YtknjifhhfccfhaaGreatDoorV2
import Derived.Test.YtknjifhhfccfhaaGreatDoorTFs
import Derived.Test.YtknjifhhfccfhaaGreatDoorW1
import Derived.Test.YtknjifhhfccfhaaGreatDoorShelfGr
/- Trial balances and dues: plain laws for TrialRight. -/
set_option linter.unusedSimpArgs false
set_option linter.unusedVariables false
namespace Go.Proofs.Lx
open Go.Vm
theorem w64_spec (a : Int) : ∃ k : Int, w64 a = a + 18446744073709551616 * k := by
  refine ⟨-((a + 9223372036854775808) / 18446744073709551616), ?_⟩
  show IntKind.i64.wrap a = _
  simp only [IntKind.wrap, IntKind.bits, IntKind.signed]
  simp
  split <;> omega
theorem w64_congr {a b : Int} (h : ∃ k : Int, a = b + 18446744073709551616 * k) : w64 a = w64 b := by
  obtain ⟨k, rfl⟩ := h
  show IntKind.i64.wrap _ = IntKind.i64.wrap _
  simp only [IntKind.wrap, IntKind.bits, IntKind.signed]
  simp
theorem w64_of {a b : Int} (h : w64 a = w64 b) : ∃ k : Int, a = b + 18446744073709551616 * k := by
  obtain ⟨k, hk⟩ := w64_spec a
  obtain ⟨j, hj⟩ := w64_spec b
  exact ⟨j - k, by omega⟩
theorem w64_sub_l (a b : Int) : w64 (w64 a - b) = w64 (a - b) := by
  obtain ⟨k, hk⟩ := w64_spec a
  exact w64_congr ⟨k, by rw [hk]; omega⟩
theorem w64_sub_r (a b : Int) : w64 (a - w64 b) = w64 (a - b) := by
  obtain ⟨k, hk⟩ := w64_spec b
  exact w64_congr ⟨-k, by rw [hk]; omega⟩
theorem w64s_tot (l : List Int) : w64s l = w64 (tot id l) := by
  have h : ∀ (l : List Int) (a : Int), l.foldl (fun a b => w64 (a + b)) (w64 a) = w64 (a + tot id l) := by
    intro l
    induction l with
    | nil => intro a; show w64 a = w64 (a + 0); rw [Int.add_zero]
    | cons x r ih =>
      intro a
      show r.foldl (fun a b => w64 (a + b)) (w64 (w64 a + x)) = w64 (a + (x + tot id r))
      rw [w64_add, ih]
      congr 1; omega
  have := h l 0
  rw [Int.zero_add] at this
  rw [← this]
  rfl
theorem tot_filter {α : Type} (p : α → Bool) (g : α → Int) : ∀ l : List α, tot id ((l.filter p).map g) = tot (fun x => if p x = true then g x else 0) l
  | [] => rfl
  | x :: r => by
    rw [List.filter_cons]
    by_cases h : p x = true
    · rw [if_pos h]
      show g x + tot id ((r.filter p).map g) = (if p x = true then g x else 0) + _
      rw [if_pos h, tot_filter p g r]
    · rw [if_neg h]
      show tot id ((r.filter p).map g) = (if p x = true then g x else 0) + _
      rw [if_neg h, tot_filter p g r]; omega
structure Sm where
  fund : Int
  deb : Int
  cred : Int
def addS (s : Sm) (x : Ln) : Sm := if x.amt > 0 then { s with deb := w64 (s.deb + x.amt) } else { s with cred := w64 (s.cred - x.amt) }
def sumStep (out : List Sm) (x : Ln) : List Sm := match out.getLast? with
  | some s => if s.fund = x.fund then out.dropLast ++ [addS s x] else out ++ [addS ⟨x.fund, 0, 0⟩ x]
  | none => [addS ⟨x.fund, 0, 0⟩ x]
def sumsL (l : List Ln) : List Sm := l.foldl sumStep []
def goodS (p : List Ln) (s : Sm) : Prop := I64 s.deb ∧ I64 s.cred ∧ w64 (s.deb - s.cred) = w64 (tot (fun x => if x.fund = s.fund then x.amt else 0) p)
theorem addS_fund (s : Sm) (x : Ln) : (addS s x).fund = s.fund := by unfold addS; split <;> rfl
theorem addS_good {p : List Ln} {s : Sm} {x : Ln} (h : goodS p s) (hx : x.fund = s.fund) : goodS (p ++ [x]) (addS s x) := by
  obtain ⟨h1, h2, h3⟩ := h
  have e : tot (fun y => if y.fund = (addS s x).fund then y.amt else 0) (p ++ [x]) = tot (fun y => if y.fund = s.fund then y.amt else 0) p + x.amt := by
    rw [addS_fund, tot_append]
    show _ + ((if x.fund = s.fund then x.amt else 0) + 0) = _
    rw [if_pos hx]; omega
  have e2 : w64 ((addS s x).deb - (addS s x).cred) = w64 (s.deb - s.cred + x.amt) := by
    unfold addS
    split
    · show w64 (w64 (s.deb + x.amt) - s.cred) = _
      rw [w64_sub_l]; congr 1; omega
    · show w64 (s.deb - w64 (s.cred - x.amt)) = _
      rw [w64_sub_r]; congr 1; omega
  refine ⟨?_, ?_, ?_⟩
  · unfold addS; split
    · exact w64_range _
    · exact h1
  · unfold addS; split
    · exact h2
    · exact w64_range _
  · rw [e, e2, ← w64_add, h3, w64_add]
theorem good_more {p : List Ln} {s : Sm} {x : Ln} (h : goodS p s) (hx : x.fund ≠ s.fund) : goodS (p ++ [x]) s := by
  obtain ⟨h1, h2, h3⟩ := h
  refine ⟨h1, h2, ?_⟩
  rw [h3, tot_append]
  show _ = w64 (_ + ((if x.fund = s.fund then x.amt else 0) + 0))
  rw [if_neg hx]; congr 1; omega
def InvS (p : List Ln) (out : List Sm) : Prop := (p = [] ∧ out = []) ∨ ∃ o s, out = o ++ [s] ∧ (∀ t ∈ o, t.fund < s.fund ∧ goodS p t) ∧ goodS p s ∧ (∀ x ∈ p, x.fund ≤ s.fund) ∧ ∃ x ∈ p, x.fund = s.fund
theorem inv_step {p : List Ln} {out : List Sm} {x : Ln} (h : InvS p out) (hx : ∀ y ∈ p, y.fund ≤ x.fund) : InvS (p ++ [x]) (sumStep out x) := by
  have hI0 : I64 0 := by unfold I64; omega
  have hnew : (∀ y ∈ p, y.fund ≠ x.fund) → goodS (p ++ [x]) (addS ⟨x.fund, 0, 0⟩ x) := fun hn => by
    refine addS_good (s := ⟨x.fund, 0, 0⟩) ⟨hI0, hI0, ?_⟩ rfl
    show w64 (0 - 0) = w64 (tot (fun y => if y.fund = x.fund then y.amt else 0) p)
    rw [tot_zero fun y hy => if_neg (hn y hy)]
    rfl
  rcases h with ⟨rfl, rfl⟩ | ⟨o, s, rfl, h1, h2, h3, y0, hy0, hys⟩
  · refine .inr ⟨[], addS ⟨x.fund, 0, 0⟩ x, rfl, by simp, hnew (by simp), fun y hy => ?_, x, by simp, ?_⟩
    · rw [List.nil_append, List.mem_singleton] at hy
      subst hy
      rw [addS_fund]; exact Int.le_refl _
    · rw [addS_fund]
  · unfold sumStep
    simp only [List.getLast?_append, List.getLast?_singleton, Option.some_or]
    by_cases he : s.fund = x.fund
    · rw [if_pos he, List.dropLast_concat]
      refine .inr ⟨o, addS s x, rfl, fun t ht => ?_, addS_good h2 he.symm, fun y hy => ?_, x, by simp, ?_⟩
      · rw [addS_fund]
        have := (h1 t ht).1
        exact ⟨this, good_more (h1 t ht).2 (by omega)⟩
      · rw [addS_fund]
        rcases List.mem_append.1 hy with hy | hy
        · exact h3 y hy
        · rw [List.mem_singleton] at hy; subst hy; omega
      · rw [addS_fund]; exact he.symm
    · rw [if_neg he]
      have hlt : s.fund < x.fund := by have := hx y0 hy0; omega
      refine .inr ⟨o ++ [s], addS ⟨x.fund, 0, 0⟩ x, rfl, fun t ht => ?_, hnew (fun y hy => by have := h3 y hy; omega), fun y hy => ?_, x, by simp, ?_⟩
      · rw [addS_fund]
        rcases List.mem_append.1 ht with ht | ht
        · have := (h1 t ht).1
          exact ⟨by show t.fund < x.fund; omega, good_more (h1 t ht).2 (by omega)⟩
        · rw [List.mem_singleton] at ht; subst ht
          exact ⟨hlt, good_more h2 (by omega)⟩
      · rw [addS_fund]
        rcases List.mem_append.1 hy with hy | hy
        · exact hx y hy
        · rw [List.mem_singleton] at hy; subst hy; exact Int.le_refl _
      · rw [addS_fund]
theorem sums_inv : ∀ (r p : List Ln) (out : List Sm), InvS p out → (p ++ r).Pairwise (fun a b => a.fund ≤ b.fund) → InvS (p ++ r) (r.foldl sumStep out)
  | [], p, out, h, _ => by rw [List.append_nil]; exact h
  | x :: r, p, out, h, hs => by
    have hx : ∀ y ∈ p, y.fund ≤ x.fund := fun y hy => (List.pairwise_append.1 hs).2.2 y hy x (List.mem_cons_self ..)
    have e : p ++ x :: r = (p ++ [x]) ++ r := by simp
    rw [e] at hs ⊢
    exact sums_inv r (p ++ [x]) _ (inv_step h hx) hs
def dueL (l : List Ln) (o : Int) : Int := w64s ((l.filter fun x => x.obj == o).map (·.amt))
def rightT (l : List Ln) : Bool := (sumsL l).all (fun s => s.deb == s.cred) && (dueL l 1900 == w64 (0 - dueL l 2900))
theorem right_of {l : List Ln} (hs : l.Pairwise (fun a b => a.fund ≤ b.fund)) (h1 : ∀ a, tot (fun x => if x.fund = a then x.amt else 0) l = 0)
    (h2 : tot (fun x => if x.obj = 1900 then x.amt else 0) l + tot (fun x => if x.obj = 2900 then x.amt else 0) l = 0) : rightT l = true := by
  have hinv := sums_inv l [] [] (.inl ⟨rfl, rfl⟩) hs
  rw [List.nil_append] at hinv
  have hall : ∀ s ∈ sumsL l, goodS l s := fun s hm => by
    rcases hinv with ⟨-, e⟩ | ⟨o, t, e, g1, g2, -⟩
    · unfold sumsL at hm; rw [e] at hm; cases hm
    · unfold sumsL at hm; rw [e] at hm
      rcases List.mem_append.1 hm with hm | hm
      · exact (g1 s hm).2
      · rw [List.mem_singleton] at hm; subst hm; exact g2
  have hd : ∀ o : Int, dueL l o = w64 (tot (fun x => if x.obj = o then x.amt else 0) l) := fun o => by
    unfold dueL
    rw [w64s_tot, tot_filter]
    congr 1
    refine tot_congr fun x _ => ?_
    by_cases hx : x.obj = o
    · rw [if_pos hx, if_pos (by simpa using hx)]
    · rw [if_neg hx, if_neg (by simpa using hx)]
  unfold rightT
  rw [Bool.and_eq_true, List.all_eq_true]
  refine ⟨fun s hm => ?_, ?_⟩
  · obtain ⟨i1, i2, e⟩ := hall s hm
    rw [h1] at e
    obtain ⟨k, hk⟩ := w64_of e
    unfold I64 at i1 i2
    have : s.deb = s.cred := by omega
    simpa using this
  · rw [hd, hd, w64_sub_r]
    have : tot (fun x => if x.obj = 1900 then x.amt else 0) l = 0 - tot (fun x => if x.obj = 2900 then x.amt else 0) l := by omega
    rw [this]; simp
theorem cb_four {a b : Int} {u v : List UInt8} (ha : InR a) (hb : InR b) (h : Lib.compareBytes (be 4 a ++ u) (be 4 b ++ v) < 0) : a ≤ b := by
  have ea : be 4 a = [byteOf a 3, byteOf a 2, byteOf a 1, byteOf a 0] := rfl
  have eb : be 4 b = [byteOf b 3, byteOf b 2, byteOf b 1, byteOf b 0] := rfl
  rw [ea, eb] at h
  obtain ⟨a3, a2, a1, a0⟩ := bytes4 a
  obtain ⟨b3, b2, b1, b0⟩ := bytes4 b
  unfold InR at ha hb
  generalize byteOf a 3 = x3 at *; generalize byteOf a 2 = x2 at *; generalize byteOf a 1 = x1 at *; generalize byteOf a 0 = x0 at *
  generalize byteOf b 3 = y3 at *; generalize byteOf b 2 = y2 at *; generalize byteOf b 1 = y1 at *; generalize byteOf b 0 = y0 at *
  simp only [List.cons_append, List.nil_append, Lib.compareBytes, UInt8.lt_iff_toNat_lt] at h
  repeat' split at h
  all_goals first | omega | (simp at h)
theorem cb_pre : ∀ (p u v : List UInt8), Lib.compareBytes (p ++ u) (p ++ v) = Lib.compareBytes u v
  | [], _, _ => rfl
  | x :: r, u, v => by
    simp only [List.cons_append, Lib.compareBytes]
    rw [cb_pre r u v]
    simp
theorem allB_sorted {y : Int} {T : List Ln} {f : Fun} {l : List KV} (hy : InR y) (h : Stands y T f) (hl : ScanIs f (keyOf 66 [y]) l) : (allB y l).Pairwise (fun a b => a.fund ≤ b.fund) := by
  unfold allB
  rw [List.pairwise_filterMap]
  refine hl.1.imp_of_mem fun {p q} hp hq hlt a ha b hb => ?_
  obtain ⟨h1, h2⟩ := (hl.2 p.1 p.2).1 hp
  obtain ⟨h3, h4⟩ := (hl.2 q.1 q.2).1 hq
  obtain ⟨k, hk, e1, n, hn, -, v1⟩ := h.1 _ _ h1 h2
  obtain ⟨k2, hk2, e2, n2, hn2, -, v2⟩ := h.1 _ _ h3 h4
  have hp' : p = (balK y k.1 k.2, be 8 n) := Prod.ext e1 v1
  have hq' : q = (balK y k2.1 k2.2, be 8 n2) := Prod.ext e2 v2
  rw [hp', balOf_some hy hk hn] at ha
  rw [hq', balOf_some hy hk2 hn2] at hb
  cases ha; cases hb
  have hb : ∀ k : Bk, isBk k → balK y k.1 k.2 = (66 :: be 4 y) ++ (be 4 k.1 ++ be 4 k.2) := fun k hk => by
    unfold balK keyOf packs
    simp [clampK_id hy.1 hy.2, clampK_id hk.1.1 hk.1.2, clampK_id hk.2.1 hk.2.2]
  have : keyLt p q := hlt
  unfold keyLt at this
  rw [e1, e2, hb k hk, hb k2 hk2, cb_pre] at this
  exact cb_four hk.1 hk2.1 this
def owedL (x : Ln) : List Ln := if x.amt > 0 then [⟨x.fund, 2900, 0, w64 (0 - x.amt)⟩] else if x.amt < 0 then [⟨x.fund, 1900, 0, w64 (0 - x.amt)⟩] else []
def balanceL (r : List Ln) : List Ln := r.flatMap owedL
theorem tot_flatMap {α β : Type} (g : β → Int) (f : α → List β) : ∀ l : List α, tot g (l.flatMap f) = tot (fun x => tot g (f x)) l
  | [] => rfl
  | x :: r => by
    rw [List.flatMap_cons, tot_append, tot_flatMap g f r]; rfl
theorem clamp_due (o : Int) (h : o = 1900 ∨ o = 2900) (x : Int) : clampK x = o ↔ x = o := by
  unfold clampK
  rcases h with rfl | rfl <;> split <;> split <;> omega
/-- Lines that come to nothing, with what funds owe: each fund has nothing, and what is due from is due to. -/
theorem entry_even {k r : List Ln} (hr : IsFunds k r) (hex : ∀ φ, sumF k φ = tot (fun x => if x.fund = φ then x.amt else 0) k ∧ -4611686018427387904 ≤ sumF k φ ∧ sumF k φ ≤ 4611686018427387904)
    (hno : ∀ x ∈ k, x.obj ≠ 1900 ∧ x.obj ≠ 2900) (h0 : tot (fun x => x.amt) k = 0) :
    (∀ a, tot (fun x => if clampK x.fund = a then x.amt else 0) (k ++ balanceL r) = 0) ∧
    tot (fun x => if clampK x.obj = 1900 then x.amt else 0) (k ++ balanceL r) + tot (fun x => if clampK x.obj = 2900 then x.amt else 0) (k ++ balanceL r) = 0 := by
  have hK : (r.map (·.fund)).Nodup := by
    rw [List.Nodup, List.pairwise_map]
    exact hr.1.imp fun {a b} hab e => by omega
  have hcov : ∀ x ∈ k, x.fund ∈ r.map (·.fund) := fun x hx => List.mem_map.2 ⟨⟨x.fund, 0, 0, sumF k x.fund⟩, (hr.2 _).2 ⟨⟨x, hx, rfl⟩, rfl⟩, rfl⟩
  have hgr : ∀ P : Int → Bool, tot (fun x => if P x.fund = true then x.amt else 0) r = tot (fun x => if P x.fund = true then x.amt else 0) k := fun P => by
    have hg := tot_groups (fun x : Ln => x.fund) (fun x => x.amt) P hK (T := k) hcov
    rw [tot_map] at hg
    refine Eq.trans (tot_congr fun x hx => ?_) hg
    have e := ((hr.2 x).1 hx).2
    have : x.amt = sumF k x.fund := congrArg Ln.amt e
    rw [this, (hex x.fund).1]
  have hamt : ∀ x ∈ r, w64 (0 - x.amt) = -x.amt := fun x hx => by
    have e := ((hr.2 x).1 hx).2
    have : x.amt = sumF k x.fund := congrArg Ln.amt e
    have h1 := (hex x.fund).2
    rw [← this] at h1
    have : w64 (0 - x.amt) = 0 - x.amt := wrap_i64 (by omega) (by omega)
    omega
  refine ⟨fun a => ?_, ?_⟩
  · rw [tot_append]
    have e1 := hgr fun φ => decide (clampK φ = a)
    simp only [decide_eq_true_eq] at e1
    have e2 : tot (fun x => if clampK x.fund = a then x.amt else 0) (balanceL r) = -tot (fun x => if clampK x.fund = a then x.amt else 0) r := by
      unfold balanceL
      rw [tot_flatMap, ← tot_neg]
      refine tot_congr fun x hx => ?_
      unfold owedL
      split
      · show (if clampK x.fund = a then w64 (0 - x.amt) else 0) + 0 = _
        rw [hamt x hx]; split <;> omega
      · split
        · show (if clampK x.fund = a then w64 (0 - x.amt) else 0) + 0 = _
          rw [hamt x hx]; split <;> omega
        · show (0 : Int) = _
          split <;> omega
    rw [e2, e1]; omega
  · rw [tot_append, tot_append]
    have z1 : tot (fun x => if clampK x.obj = 1900 then x.amt else 0) k = 0 := tot_zero fun x hx => if_neg fun e => (hno x hx).1 ((clamp_due 1900 (.inl rfl) _).1 e)
    have z2 : tot (fun x => if clampK x.obj = 2900 then x.amt else 0) k = 0 := tot_zero fun x hx => if_neg fun e => (hno x hx).2 ((clamp_due 2900 (.inr rfl) _).1 e)
    have e3 : tot (fun x => if clampK x.obj = 1900 then x.amt else 0) (balanceL r) + tot (fun x => if clampK x.obj = 2900 then x.amt else 0) (balanceL r) = -tot (fun x => x.amt) r := by
      unfold balanceL
      rw [tot_flatMap, tot_flatMap, ← tot_add, ← tot_neg]
      refine tot_congr fun x hx => ?_
      have c1 : clampK 1900 = 1900 := rfl
      have c2 : clampK 2900 = 2900 := rfl
      unfold owedL
      split
      · show ((if clampK 2900 = 1900 then w64 (0 - x.amt) else 0) + 0) + ((if clampK 2900 = 2900 then w64 (0 - x.amt) else 0) + 0) = _
        rw [c2, if_neg (by decide), if_pos rfl, hamt x hx]; omega
      · split
        · show ((if clampK 1900 = 1900 then w64 (0 - x.amt) else 0) + 0) + ((if clampK 1900 = 2900 then w64 (0 - x.amt) else 0) + 0) = _
          rw [c1, if_pos rfl, if_neg (by decide), hamt x hx]; omega
        · show (0 : Int) + 0 = _
          omega
    have e4 := hgr fun _ => true
    simp only [if_true] at e4
    rw [z1, z2]
    have e5 : tot (fun x : Ln => x.amt) r = 0 := by rw [e4, h0]
    omega
end Go.Proofs.Lx
/- Charges, and what nodes there are behind them: plain laws for CtrlHolds and EncNoMore. -/
set_option linter.unusedSimpArgs false
set_option linter.unusedVariables false
namespace Go.Proofs.Lx
open Go.Vm
attribute [local irreducible] awpArr awpBin awpMake awpAppend awpCvX awpStrOf awpBinX awpSlice awpBS awpStore awpAlloc awpCopy awpIndex awpDraw awpIdxX awpFa awpField awpLookup awpUpdate awpDelete awpClear awpRange awpNext awpEntry awpBuild awpClearS awpIdxL awpTree appB awpIdxO eltA treeA
inductive All2 (R : Nd → Nd → Prop) : List Nd → List Nd → Prop
  | nil : All2 R [] []
  | cons {a b : Nd} {l l' : List Nd} (h : R a b) (t : All2 R l l') : All2 R (a :: l) (b :: l')
theorem All2.len {R : Nd → Nd → Prop} : ∀ {l l' : List Nd}, All2 R l l' → l.length = l'.length
  | _, _, .nil => rfl
  | _, _, .cons _ t => by rw [List.length_cons, List.length_cons, t.len]
theorem All2.get {R : Nd → Nd → Prop} : ∀ {l l' : List Nd}, All2 R l l' → ∀ (i : Nat) (h1 : i < l.length) (h2 : i < l'.length), R l[i] l'[i]
  | _, _, .cons h _, 0, _, _ => h
  | _, _, .cons _ t, i + 1, h1, h2 => t.get i (by simpa using h1) (by simpa using h2)
end Go.Proofs.Lx
/- Plain laws for DocsBack. -/
set_option linter.unusedSimpArgs false
set_option linter.unusedVariables false
namespace Go.Proofs.Lx
open Go.Vm
attribute [local irreducible] awpArr awpBin awpMake awpAppend awpCvX awpStrOf awpBinX awpSlice awpBS awpStore awpAlloc awpCopy awpIndex awpDraw awpIdxX awpFa awpField awpLookup awpUpdate awpDelete awpClear awpRange awpNext awpEntry awpBuild awpClearS awpIdxL awpTree appB awpIdxO eltA treeA
end Go.Proofs.Lx
/- What goes over from a pre-encumbrance: plain laws for EncNoMore. -/
set_option linter.unusedSimpArgs false
set_option linter.unusedVariables false
namespace Go.Proofs.Lx
open Go.Vm
attribute [local irreducible] awpArr awpBin awpMake awpAppend awpCvX awpStrOf awpBinX awpSlice awpBS awpStore awpAlloc awpCopy awpIndex awpDraw awpIdxX awpFa awpField awpLookup awpUpdate awpDelete awpClear awpRange awpNext awpEntry awpBuild awpClearS awpIdxL awpTree appB awpIdxO eltA treeA
theorem pre_head {t : UInt8} {l : List Int} {k : List UInt8} (h : (keyOf t l).isPrefixOf k = true) : ∃ r, k = t :: r := by
  unfold keyOf at h
  cases k with
  | nil => simp at h
  | cons a r =>
    simp only [List.isPrefixOf, Bool.and_eq_true, beq_iff_eq] at h
    exact ⟨r, by rw [h.1]⟩
end Go.Proofs.Lx
/- Entries that are even: plain laws for TrialRight. -/
set_option linter.unusedSimpArgs false
set_option linter.unusedVariables false
namespace Go.Proofs.Lx
open Go.Vm
theorem tot_bound {α : Type} {g : α → Int} {B : Int} : ∀ {l : List α}, (∀ x ∈ l, -B ≤ g x ∧ g x ≤ B) → -((l.length : Int) * B) ≤ tot g l ∧ tot g l ≤ (l.length : Int) * B
  | [], _ => by simp [tot]
  | x :: r, h => by
    have ih := tot_bound (l := r) fun y hy => h y (List.mem_cons_of_mem _ hy)
    have hx := h x (List.mem_cons_self ..)
    have e : ((x :: r).length : Int) * B = (r.length : Int) * B + B := by
      rw [List.length_cons]
      push_cast
      rw [Int.add_mul, Int.one_mul]
    rw [e]
    show -((r.length : Int) * B + B) ≤ g x + tot g r ∧ g x + tot g r ≤ _
    omega
def BIG : Int := 180143985094819840
theorem sumF_exact {k : List Ln} (h : ∀ x ∈ k, -BIG ≤ x.amt ∧ x.amt ≤ BIG) (hl : k.length ≤ 21) (φ : Int) :
    sumF k φ = tot (fun x => if x.fund = φ then x.amt else 0) k ∧ -4611686018427387904 ≤ sumF k φ ∧ sumF k φ ≤ 4611686018427387904 := by
  have e : sumF k φ = w64 (tot (fun x => if x.fund = φ then x.amt else 0) k) := by
    unfold sumF
    rw [w64s_tot, tot_filter]
    congr 1
    refine tot_congr fun x _ => ?_
    by_cases hx : x.fund = φ
    · rw [if_pos hx, if_pos (by simpa using hx)]
    · rw [if_neg hx, if_neg (by simpa using hx)]
  have hb := tot_bound (g := fun x : Ln => if x.fund = φ then x.amt else 0) (B := BIG) (l := k) fun x hx => by
    have := h x hx
    show -BIG ≤ (if x.fund = φ then x.amt else 0) ∧ (if x.fund = φ then x.amt else 0) ≤ BIG
    unfold BIG at *
    split <;> omega
  have hm : (k.length : Int) * BIG ≤ 21 * BIG := Int.mul_le_mul_of_nonneg_right (by omega) (by unfold BIG; omega)
  unfold BIG at *
  have e2 : w64 (tot (fun x : Ln => if x.fund = φ then x.amt else 0) k) = tot (fun x => if x.fund = φ then x.amt else 0) k := wrap_i64 (by omega) (by omega)
  rw [e, e2]
  refine ⟨rfl, by omega, by omega⟩
/-- Each fund has nothing, and what is due from is due to. -/
def EvenT (T : List Ln) : Prop := (∀ a, tot (fun x => if clampK x.fund = a then x.amt else 0) T = 0) ∧
  tot (fun x => if clampK x.obj = 1900 then x.amt else 0) T + tot (fun x => if clampK x.obj = 2900 then x.amt else 0) T = 0
theorem even_nil : EvenT [] := ⟨fun _ => rfl, rfl⟩
theorem EvenT.append {T U : List Ln} (h : EvenT T) (h' : EvenT U) : EvenT (T ++ U) := by
  refine ⟨fun a => ?_, ?_⟩
  · rw [tot_append, h.1, h'.1]; rfl
  · rw [tot_append, tot_append]
    have := h.2
    have := h'.2
    omega
/-- Lines of no more than may be, with one that makes them nothing. -/
theorem small_even {k r : List Ln} {n : Int} (hl : k.length ≤ 20) (hk : ∀ x ∈ k, (-9007199254740992 ≤ x.amt ∧ x.amt ≤ 9007199254740992) ∧ x.obj ≠ 1900 ∧ x.obj ≠ 2900) (hn : n = tot (fun x => x.amt) k)
    (hr : IsFunds (k ++ [⟨100, 3000, 0, -n⟩]) r) : EvenT ((k ++ [⟨100, 3000, 0, -n⟩]) ++ balanceL r) := by
  have hb := tot_bound (g := fun x : Ln => x.amt) (B := 9007199254740992) (l := k) fun x hx => (hk x hx).1
  have hm : (k.length : Int) * 9007199254740992 ≤ 20 * 9007199254740992 := Int.mul_le_mul_of_nonneg_right (by omega) (by omega)
  rw [← hn] at hb
  have hB : ∀ x ∈ k ++ [⟨100, 3000, 0, -n⟩], -BIG ≤ x.amt ∧ x.amt ≤ BIG := fun x hx => by
    unfold BIG
    rcases List.mem_append.1 hx with hx | hx
    · have := (hk x hx).1
      omega
    · rw [List.mem_singleton] at hx; subst hx
      show -180143985094819840 ≤ -n ∧ -n ≤ 180143985094819840
      omega
  refine entry_even hr (sumF_exact hB (by rw [List.length_append]; simp; omega)) (fun x hx => ?_) ?_
  · rcases List.mem_append.1 hx with hx | hx
    · exact (hk x hx).2
    · rw [List.mem_singleton] at hx; subst hx
      exact ⟨by show (3000 : Int) ≠ 1900; decide, by show (3000 : Int) ≠ 2900; decide⟩
  · rw [tot_append, ← hn]
    show n + (-n + 0) = 0
    omega
theorem tot_dec (p : Ln → Prop) [DecidablePred p] (L : List Ln) : tot (fun x => if decide (p x) = true then x.amt else 0) L = tot (fun x => if p x then x.amt else 0) L := tot_congr fun x _ => by by_cases h : p x <;> simp [h]
/-- What is so of even balances. -/
theorem right_stands {y : Int} {T : List Ln} {f : Fun} {l : List KV} (hy : InR y) (h : Stands y T f) (he : EvenT T) (hl : ScanIs f (keyOf 66 [y]) l) : rightT (allB y l) = true := by
  refine right_of (allB_sorted hy h hl) (fun a => ?_) ?_
  · have e := allB_tot hy h hl fun k => decide (k.1 = a)
    have e' : tot (fun x : Ln => if x.fund = a then x.amt else 0) (allB y l) = tot (fun x => if clampK x.fund = a then x.amt else 0) T := (tot_dec (fun x => x.fund = a) _).symm.trans (e.trans (tot_dec (fun x => clampK x.fund = a) T))
    rw [e']; exact he.1 a
  · have e1 := allB_tot hy h hl fun k => decide (k.2 = 1900)
    have e2 := allB_tot hy h hl fun k => decide (k.2 = 2900)
    have e1' : tot (fun x : Ln => if x.obj = 1900 then x.amt else 0) (allB y l) = tot (fun x => if clampK x.obj = 1900 then x.amt else 0) T := (tot_dec (fun x => x.obj = 1900) _).symm.trans (e1.trans (tot_dec (fun x => clampK x.obj = 1900) T))
    have e2' : tot (fun x : Ln => if x.obj = 2900 then x.amt else 0) (allB y l) = tot (fun x => if clampK x.obj = 2900 then x.amt else 0) T := (tot_dec (fun x => x.obj = 2900) _).symm.trans (e2.trans (tot_dec (fun x => clampK x.obj = 2900) T))
    rw [e1', e2']; exact he.2
theorem stands_upd {y : Int} {T : List Ln} {f : Fun} {q : List UInt8} {v : Option (List UInt8)} {t : UInt8} {a : List Int} (hq : q = keyOf t a) (ht : t ≠ 66) (h : Stands y T f) : Stands y T (upd f q v) :=
  stands_congr h (fun k hk => by
    obtain ⟨r, rfl⟩ := pre_head hk
    rw [upd_app, if_neg]
    rw [hq]
    exact fun e => ht (List.cons.inj e).1.symm) (bal_pre y)
def jK (id i : Int) : List UInt8 := keyOf 74 [id, i]
def jV (x : Ln) : List UInt8 := packs 8 [x.fund, x.obj, x.amt]
/-- Lines that are posted, and what is wrong. -/
def postL (y id : Int) : Nat → List Ln → Fun → Fun × Int
  | _, [], f => (f, 0)
  | i, x :: r, f => if (balAdd (upd f (jK id i) (some (jV x))) (balK y x.fund x.obj) x.amt).2 ≠ 0 then balAdd (upd f (jK id i) (some (jV x))) (balK y x.fund x.obj) x.amt
    else postL y id (i + 1) r (balAdd (upd f (jK id i) (some (jV x))) (balK y x.fund x.obj) x.amt).1
theorem post_stands {y id : Int} : ∀ {A : List Ln} {i : Nat} {T : List Ln} {f : Fun}, Stands y T f → (postL y id i A f).2 = 0 → Stands y (T ++ A) (postL y id i A f).1
  | [], i, T, f, h, _ => by rw [List.append_nil]; exact h
  | x :: r, i, T, f, h, he => by
    unfold postL at he ⊢
    by_cases hc : (balAdd (upd f (jK id i) (some (jV x))) (balK y x.fund x.obj) x.amt).2 ≠ 0
    · rw [if_pos hc] at he
      exact absurd he hc
    · rw [if_neg hc] at he ⊢
      have h1 := stands_add (stands_upd (q := jK id i) (t := 74) (a := [id, i]) rfl (by decide) h) (by simpa using hc)
      have := post_stands h1 he
      have e : T ++ x :: r = (T ++ [x]) ++ r := by simp
      rw [e]; exact this
theorem postL_n (y id : Int) : ∀ (A : List Ln) (i : Nat) (f : Fun), (postL y id i A f).1.n ≤ f.n + 2 * A.length
  | [], i, f => Nat.le_add_right _ _
  | x :: r, i, f => by
    unfold postL
    have h1 := balAdd_n (upd f (jK id i) (some (jV x))) (balK y x.fund x.obj) x.amt
    have h2 : (upd f (jK id i) (some (jV x))).n = f.n + 1 := rfl
    rw [List.length_cons]
    split
    · omega
    · have := postL_n y id r (i + 1) (balAdd (upd f (jK id i) (some (jV x))) (balK y x.fund x.obj) x.amt).1
      omega
end Go.Proofs.Lx
/- Entries and expenditures: plain laws for TrialRight, ExpStands. -/
set_option linter.unusedSimpArgs false
set_option linter.unusedVariables false
namespace Go.Proofs.Lx
open Go.Vm
def enK (id : Int) : List UInt8 := keyOf 69 [id]
def enV (y kind lines of by' : Int) : List UInt8 := packs 8 [y, kind, lines, of, by']
/-- An entry of a year with all of its lines: the number, and what is wrong. -/
def standF (f : Fun) (y kind of : Int) (all : List Ln) : Fun × Int × Int :=
  if checkY f y ≠ 0 then (f, 0, checkY f y)
  else if readOf f (seqKey 1) < 0 ∨ 4294967294 < readOf f (seqKey 1) then (f, 0, 9)
  else if (postL y (readOf f (seqKey 1) + 1) 0 all (upd f (seqKey 1) (some (be 8 (readOf f (seqKey 1) + 1))))).2 ≠ 0 then
    ((postL y (readOf f (seqKey 1) + 1) 0 all (upd f (seqKey 1) (some (be 8 (readOf f (seqKey 1) + 1))))).1, 0, (postL y (readOf f (seqKey 1) + 1) 0 all (upd f (seqKey 1) (some (be 8 (readOf f (seqKey 1) + 1))))).2)
  else (upd (postL y (readOf f (seqKey 1) + 1) 0 all (upd f (seqKey 1) (some (be 8 (readOf f (seqKey 1) + 1))))).1 (enK (readOf f (seqKey 1) + 1)) (some (enV y kind all.length of 0)), readOf f (seqKey 1) + 1, 0)
def entryF (f : Fun) (y kind of : Int) (l all : List Ln) : Fun × Int × Int := if l.length = 0 ∨ 200 < l.length then (f, 0, 1) else standF f y kind of all
theorem stand_n (f : Fun) (y kind of : Int) (all : List Ln) : (standF f y kind of all).1.n ≤ f.n + 2 * all.length + 2 := by
  unfold standF
  have h := postL_n y (readOf f (seqKey 1) + 1) all 0 (upd f (seqKey 1) (some (be 8 (readOf f (seqKey 1) + 1))))
  have e : (upd f (seqKey 1) (some (be 8 (readOf f (seqKey 1) + 1)))).n = f.n + 1 := rfl
  rw [e] at h
  split
  · show f.n ≤ _; omega
  · split
    · show f.n ≤ _; omega
    · split
      · show (postL _ _ _ _ _).1.n ≤ _; omega
      · show (postL _ _ _ _ _).1.n + 1 ≤ _; omega
theorem entry_stands {f : Fun} {y kind of : Int} {l all T : List Ln} (h : Stands y T f) (he : (entryF f y kind of l all).2.2 = 0) : Stands y (T ++ all) (entryF f y kind of l all).1 := by
  unfold entryF at he ⊢
  split
  · rename_i h0; rw [if_pos h0] at he; simp at he
  · rename_i h0
    rw [if_neg h0] at he
    unfold standF at he ⊢
    split
    · rename_i h1; rw [if_pos h1] at he; exact absurd he h1
    · rename_i h1
      rw [if_neg h1] at he
      split
      · rename_i h2; rw [if_pos h2] at he; simp at he
      · rename_i h2
        rw [if_neg h2] at he
        split
        · rename_i h3; rw [if_pos h3] at he; exact absurd he h3
        · rename_i h3
          have hs := stands_upd (q := seqKey 1) (v := some (be 8 (readOf f (seqKey 1) + 1))) (t := 83) (a := [1]) rfl (by decide) h
          have hp := post_stands (id := readOf f (seqKey 1) + 1) (i := 0) hs (by simpa using h3)
          exact stands_upd (q := enK _) (t := 69) (a := [_]) rfl (by decide) hp
end Go.Proofs.Lx
/- Expenditures: the plain law of ExpStands. -/
set_option linter.unusedSimpArgs false
set_option linter.unusedVariables false
namespace Go.Proofs.Lx
open Go.Vm
end Go.Proofs.Lx
/- Entries: recs.Line, recs.Entry, entry.journal.set, post, interf.owed. DRAFT: never built with these functions in the program (lay.py leaves out what a seat's program lacks). -/
set_option linter.unusedSimpArgs false
set_option linter.unusedVariables false
namespace Go.Proofs.Lx
open Go.Vm
attribute [local irreducible] awpArr awpBin awpMake awpAppend awpCvX awpStrOf awpBinX awpSlice awpBS awpStore awpAlloc awpCopy awpIndex awpDraw awpIdxX awpFa awpField awpLookup awpUpdate awpDelete awpClear awpRange awpNext awpEntry awpBuild awpClearS awpIdxL awpTree appB awpIdxO eltA treeA
theorem jK_length (id i : Int) : (jK id i).length = 9 := by simp [jK, keyOf, packs, be_length]
theorem jV_length (x : Ln) : (jV x).length = 24 := by simp [jV, packs, be_length]
theorem right_j (id i : Int) (x : Ln) : rightKV (jK id i) (jV x) = true := by simp [rightKV, jK_length, jV_length]
theorem enK_length (id : Int) : (enK id).length = 5 := by simp [enK, keyOf, packs, be_length]
theorem enV_length (a b c d e : Int) : (enV a b c d e).length = 40 := by simp [enV, packs, be_length]
theorem right_en (id a b c d e : Int) : rightKV (enK id) (enV a b c d e) = true := by simp [rightKV, enK_length, enV_length]
theorem does_recLines : Does Tryz.prog 157 (tabSpec 74 2 3) := by
  refine does_of_awp good_nil Tryz.func157 rfl (by decide +kernel) (by decide +kernel) ?_
  rintro args h Q ⟨rfl, hq⟩
  refine ⟨by simp [Tryz.f157], ?_⟩
  rw [awpFunc_some (by rfl)]
  simp -dsimp only [Vm.G, List.lookup, Nat.reduceAdd, Nat.reduceBEq, Int.reduceBNe, Int.reduceBEq, Nat.reduceLeDiff, q157]
  exact hq
theorem does_recEntries : Does Tryz.prog 120 (tabSpec 69 1 5) := by
  refine does_of_awp good_nil Tryz.func120 rfl (by decide +kernel) (by decide +kernel) ?_
  rintro args h Q ⟨rfl, hq⟩
  refine ⟨by simp [Tryz.f120], ?_⟩
  rw [awpFunc_some (by rfl)]
  simp -dsimp only [Vm.G, List.lookup, Nat.reduceAdd, Nat.reduceBEq, Int.reduceBNe, Int.reduceBEq, Nat.reduceLeDiff, q120]
  exact hq
def rlnSpec : Vm.Spec := fun args h Q => ∃ (id i : Int) (x : Ln), I64 id ∧ I64 i ∧ x.ok ∧ args = [.v (.int .i64 id), .v (.int .i64 i), lnAv x] ∧ Q (.agg [.sl 1 ((jK id i).map encB), .sl 1 ((jV x).map encB)]) h
set_option maxRecDepth 20000 in
theorem does_recLn : Does Tryz.prog 118 rlnSpec := by
  refine does_of_awp (good_cons does_recLines (good_cons does_pair good_nil)) Tryz.func118 rfl (by decide +kernel) (by decide +kernel) ?_
  rintro args h Q ⟨id, i, x, hid, hi, ⟨o1, o2, o3, o4⟩, rfl, hq⟩
  refine ⟨by simp [Tryz.f118], ?_⟩
  rw [awpFunc_some (by rfl)]
  simp only [lnAv, lnCells]
  simp -dsimp only [Vm.G, List.lookup, Nat.reduceAdd, Nat.reduceBEq, Int.reduceBNe, Int.reduceBEq, Nat.reduceLeDiff, q118]
  refine draw_cont [5] (.take 1 (.take 2 (.take 3 (.take 4 (.take 5 (.take 6 (.take 7 (.take 8 (.alt 0 (.alt 9 (.alt 10 (.alt 11 (.done) .stop) .stop) .stop) (.alt 9 (.alt 0 (.alt 10 (.alt 11 (.done) .stop) .stop) .stop) (.stop))))))))))) (fun s h2 => h2 = h ∧ s 6 = .box [.sl 1 ((jK id i).map encB), .sl 1 ((jV x).map encB)]) (by kernel_rfl) (by kernel_rfl) (by kernel_rfl) (by decide) ?_ ?_
  · have hm : ∀ m ∈ [id, i, x.fund, x.obj, x.amt], I64 m := fun m hm => by
      simp only [List.mem_cons, List.not_mem_nil, or_false] at hm
      rcases hm with rfl | rfl | rfl | rfl | rfl <;> assumption
    have e1 : keyOf 74 (([id, i, x.fund, x.obj, x.amt] : List Int).take 2) = jK id i := rfl
    have e2 : packOf (([id, i, x.fund, x.obj, x.amt] : List Int).drop 2) = jV x := rfl
    repeat' first
      | with_reducible exact True.intro
      | simp -dsimp only [Vm.G, List.lookup, Nat.reduceAdd, Nat.reduceBEq, Int.reduceBNe, Int.reduceBEq, Nat.reduceLeDiff, q118, e1, e2]
      | refine call_one (S := tabSpec 74 2 3) rfl _ GaL.rfl ⟨rfl, ?_⟩
      | refine call_one (S := pairSpec) rfl _ GaL.rfl ⟨74, 2, 3, [id, i, x.fund, x.obj, x.amt], by simp, by simp, hm, rfl, ?_⟩
      | refine bs_intro zr3 (by decide) (by decide) rfl rfl (by simp [solid, AV.cells]) ?_
      | refine tree_alt ?_ ?_
      | repeat' first | rfl | exact True.intro | refine And.intro ?_ ?_
  · rintro s h2 ⟨rfl, e6⟩
    simp -dsimp only [Vm.G, List.lookup, Nat.reduceAdd, Nat.reduceBEq, Int.reduceBNe, Int.reduceBEq, Nat.reduceLeDiff, q118, e6]
    exact hq
structure En where
  id : Int
  year : Int
  kind : Int
  lines : Int
  of' : Int
  by' : Int
def enCells (e : En) : List AV := [.v (.int .i64 e.id), .v (.int .i64 e.year), .v (.int .i64 e.kind), .v (.int .i64 e.lines), .v (.int .i64 e.of'), .v (.int .i64 e.by')]
def En.ok (e : En) : Prop := I64 e.id ∧ I64 e.year ∧ I64 e.kind ∧ I64 e.lines ∧ I64 e.of' ∧ I64 e.by'
def renSpec : Vm.Spec := fun args h Q => ∃ e : En, e.ok ∧ args = [.agg (enCells e)] ∧ Q (.agg [.sl 1 ((enK e.id).map encB), .sl 1 ((enV e.year e.kind e.lines e.of' e.by').map encB)]) h
set_option maxRecDepth 20000 in
theorem does_recEn : Does Tryz.prog 85 renSpec := by
  refine does_of_awp (good_cons does_recEntries (good_cons does_pair good_nil)) Tryz.func85 rfl (by decide +kernel) (by decide +kernel) ?_
  rintro args h Q ⟨d, ⟨o1, o2, o3, o4, o5, o6⟩, rfl, hq⟩
  refine ⟨by simp [Tryz.f85], ?_⟩
  rw [awpFunc_some (by rfl)]
  simp only [enCells]
  simp -dsimp only [Vm.G, List.lookup, Nat.reduceAdd, Nat.reduceBEq, Int.reduceBNe, Int.reduceBEq, Nat.reduceLeDiff, q85]
  refine draw_cont [1] (.take 1 (.take 2 (.take 3 (.take 4 (.take 5 (.take 6 (.take 7 (.take 8 (.take 9 (.take 10 (.take 11 (.take 12 (.alt 0 (.alt 13 (.alt 14 (.alt 15 (.done) .stop) .stop) .stop) (.alt 13 (.alt 0 (.alt 14 (.alt 15 (.done) .stop) .stop) .stop) (.stop))))))))))))))) (fun s h2 => h2 = h ∧ s 2 = .box [.sl 1 ((enK d.id).map encB), .sl 1 ((enV d.year d.kind d.lines d.of' d.by').map encB)]) (by kernel_rfl) (by kernel_rfl) (by kernel_rfl) (by decide) ?_ ?_
  · have hm : ∀ m ∈ [d.id, d.year, d.kind, d.lines, d.of', d.by'], I64 m := fun m hm => by
      simp only [List.mem_cons, List.not_mem_nil, or_false] at hm
      rcases hm with rfl | rfl | rfl | rfl | rfl | rfl <;> assumption
    have e1 : keyOf 69 (([d.id, d.year, d.kind, d.lines, d.of', d.by'] : List Int).take 1) = enK d.id := rfl
    have e2 : packOf (([d.id, d.year, d.kind, d.lines, d.of', d.by'] : List Int).drop 1) = enV d.year d.kind d.lines d.of' d.by' := rfl
    repeat' first
      | with_reducible exact True.intro
      | simp -dsimp only [Vm.G, List.lookup, Nat.reduceAdd, Nat.reduceBEq, Int.reduceBNe, Int.reduceBEq, Nat.reduceLeDiff, q85, e1, e2]
      | refine call_one (S := tabSpec 69 1 5) rfl _ GaL.rfl ⟨rfl, ?_⟩
      | refine call_one (S := pairSpec) rfl _ GaL.rfl ⟨69, 1, 5, [d.id, d.year, d.kind, d.lines, d.of', d.by'], by simp, by simp, hm, rfl, ?_⟩
      | refine bs_intro zr3 (by decide) (by decide) rfl rfl (by simp [solid, AV.cells]) ?_
      | refine tree_alt ?_ ?_
      | repeat' first | rfl | exact True.intro | refine And.intro ?_ ?_
  · rintro s h2 ⟨rfl, e2⟩
    simp -dsimp only [Vm.G, List.lookup, Nat.reduceAdd, Nat.reduceBEq, Int.reduceBNe, Int.reduceBEq, Nat.reduceLeDiff, q85, e2]
    exact hq
theorem does_jset : Does Tryz.prog 84 dsetSpec := by
  refine does_of_awp (good_cons does_vput good_nil) Tryz.func84 rfl (by decide +kernel) (by decide +kernel) ?_
  rintro args h Q ⟨V, f, k, v, rfl, hr, hV, hq⟩
  refine ⟨by simp [Tryz.f84], ?_⟩
  rw [awpFunc_some (by rfl)]
  simp -dsimp only [Vm.G, List.lookup, Nat.reduceAdd, Nat.reduceBEq, Int.reduceBNe, Int.reduceBEq, Nat.reduceLeDiff, q84]
  refine call_one (S := vputSpec) rfl _ GaL.rfl ⟨V, f, k, v, rfl, hV, fun _ h' g1 g2 => ?_, fun hc => by rw [hr] at hc; cases hc⟩
  simp -dsimp only [Vm.G, List.lookup, Nat.reduceAdd, Nat.reduceBEq, Int.reduceBNe, Int.reduceBEq, Nat.reduceLeDiff, q84]
  exact hq h' g1 g2
def postSpec : Vm.Spec := fun args h Q => ∃ (V : VId) (f : Fun) (year id i : Int) (x : Ln), I64 id ∧ I64 i ∧ x.ok ∧ args = [.agg [.ptr V.iv 0], .v (.int .i64 year), .v (.int .i64 id), .v (.int .i64 i), lnAv x] ∧ isView h V f ∧
  ∀ h', isView h' V (balAdd (upd f (jK id i) (some (jV x))) (balK year x.fund x.obj) x.amt).1 → Same h h' [V.ic] → Q (.v (.int .i64 (balAdd (upd f (jK id i) (some (jV x))) (balK year x.fund x.obj) x.amt).2)) h'
set_option maxRecDepth 20000 in
theorem does_post : Does Tryz.prog 83 postSpec := by
  refine does_of_awp (good_cons does_recLn (good_cons does_jset (good_cons does_balAdd good_nil))) Tryz.func83 rfl (by decide +kernel) (by decide +kernel) ?_
  rintro args h Q ⟨V, f, year, id, i, x, hid, hi, hx, rfl, hV, hq⟩
  refine ⟨by simp [Tryz.f83], ?_⟩
  rw [awpFunc_some (by rfl)]
  simp only [lnAv, lnCells]
  simp -dsimp only [Vm.G, List.lookup, Nat.reduceAdd, Nat.reduceBEq, Int.reduceBNe, Int.reduceBEq, Nat.reduceLeDiff, q83]
  refine draw_cont [5, 9] (.take 0 (.take 1 (.take 2 (.take 3 (.alt 4 (.alt 5 (.alt 6 (.done) .stop) .stop) .stop))))) (fun s h' => isView h' V (upd f (jK id i) (some (jV x))) ∧ Same h h' [V.ic] ∧ s 11 = .v (.int .i64 0) ∧ s 1 = .v (.int .i64 year) ∧ s 5 = .eptr [.ptr V.iv 0] ∧ s 9 = .eptr [.v (.int .i64 x.fund), .v (.int .i64 x.obj), .v (.int .i64 x.node), .v (.int .i64 x.amt)]) (by kernel_rfl) (by kernel_rfl) (by kernel_rfl) (by decide) ?_ ?_
  · simp -dsimp only [Vm.G, List.lookup, Nat.reduceAdd, Nat.reduceBEq, Int.reduceBNe, Int.reduceBEq, Nat.reduceLeDiff, q83, AV.cells]
    refine call_one (S := rlnSpec) rfl _ GaL.rfl ⟨id, i, x, hid, hi, hx, rfl, ?_⟩
    simp -dsimp only [Vm.G, List.lookup, Nat.reduceAdd, Nat.reduceBEq, Int.reduceBNe, Int.reduceBEq, Nat.reduceLeDiff, q83]
    refine call_one (S := dsetSpec) rfl _ GaL.rfl ⟨V, f, jK id i, jV x, rfl, right_j id i x, hV, fun h2 g1 g2 => ?_⟩
    simp -dsimp only [Vm.G, List.lookup, Nat.reduceAdd, Nat.reduceBEq, Int.reduceBNe, Int.reduceBEq, Nat.reduceLeDiff, q83]
    refine ⟨g1, g2, ?_⟩
    repeat' first | rfl | exact True.intro | refine And.intro ?_ ?_
  · rintro s h2 ⟨g1, g2, e11, e1, e5, e9⟩
    simp -dsimp only [Vm.G, List.lookup, Nat.reduceAdd, Nat.reduceBEq, Int.reduceBNe, Int.reduceBEq, Nat.reduceLeDiff, q83, e11, e1, e5, e9, bne_self_eq_false]
    refine call_one (S := balAddSpec) rfl _ GaL.rfl ⟨V, upd f (jK id i) (some (jV x)), year, x, rfl, g1, fun h3 g3 g4 => ?_⟩
    simp -dsimp only [Vm.G, List.lookup, Nat.reduceAdd, Nat.reduceBEq, Int.reduceBNe, Int.reduceBEq, Nat.reduceLeDiff, q83]
    exact hq h3 g3 (g2.trans g4)
end Go.Proofs.Lx
/- Balances told exactly: plain laws for the beginning of TrialRight. -/
set_option linter.unusedSimpArgs false
set_option linter.unusedVariables false
namespace Go.Proofs.Lx
open Go.Vm
theorem scan_stands {y : Int} {T : List Ln} {f : Fun} (h : Stands y T f) {ks : List Bk} (hs : (ks.map fun k => ((balK y k.1 k.2, be 8 (gsum T k)) : KV)).Pairwise keyLt) (hk : ∀ k ∈ ks, isBk k ∧ gsum T k ≠ 0) (hall : ∀ x ∈ T, ck x ∈ ks) :
    ScanIs f (keyOf 66 [y]) (ks.map fun k => (balK y k.1 k.2, be 8 (gsum T k))) := by
  refine ⟨hs, fun q v => ?_⟩
  constructor
  · intro hm
    obtain ⟨k, hkm, e⟩ := List.mem_map.1 hm
    cases e
    obtain ⟨k1, k2⟩ := hk k hkm
    refine ⟨?_, bal_pre y k⟩
    have hr := h.2 k k1
    cases hf : f (balK y k.1 k.2) with
    | none => rw [readOf_none hf] at hr; exact absurd hr.symm k2
    | some v =>
      obtain ⟨j, hj, hq, n, hn, -, rfl⟩ := h.1 _ _ hf (bal_pre y _)
      rw [readOf_some hn hf] at hr
      rw [← hr]
  · rintro ⟨hf, hp⟩
    obtain ⟨k, hk1, hq, n, hn, h0, rfl⟩ := h.1 _ _ hf hp
    subst hq
    have hr := h.2 k hk1
    rw [readOf_some hn hf] at hr
    refine List.mem_map.2 ⟨k, ?_, by rw [hr]⟩
    have hne : gsum T k ≠ 0 := by rw [← hr]; exact h0
    obtain ⟨x, hx, e⟩ : ∃ x ∈ T, ck x = k := Classical.byContradiction fun hc => hne (tot_zero fun x hx => if_neg fun e => hc ⟨x, hx, e⟩)
    rw [← e]; exact hall x hx
def tA : Ln := ⟨100, 5010, 0, 5⟩
def tB : Ln := ⟨200, 1010, 0, -5⟩
def tC : Ln := ⟨100, 2900, 0, -5⟩
def tD : Ln := ⟨200, 1900, 0, 5⟩
theorem two_funds {x y : Ln} {a b : Int} (hx : x.fund = 100) (hy : y.fund = 200) (h : sumF [x, y] 100 = a) (h2 : sumF [x, y] 200 = b) : IsFunds [x, y] [⟨100, 0, 0, a⟩, ⟨200, 0, 0, b⟩] := ⟨by simp, fun z => ⟨fun hz => by
    simp only [List.mem_cons, List.not_mem_nil, or_false] at hz
    rcases hz with rfl | rfl
    · exact ⟨⟨x, by simp, hx⟩, by show (⟨100, 0, 0, a⟩ : Ln) = ⟨100, 0, 0, sumF [x, y] 100⟩; rw [h]⟩
    · exact ⟨⟨y, by simp, hy⟩, by show (⟨200, 0, 0, b⟩ : Ln) = ⟨200, 0, 0, sumF [x, y] 200⟩; rw [h2]⟩, fun ⟨⟨w, hw, e⟩, hz⟩ => by
    simp only [List.mem_cons, List.not_mem_nil, or_false] at hw
    rcases hw with rfl | rfl
    · have hf : z.fund = 100 := by rw [← e]; exact hx
      rw [hf, h] at hz
      rw [hz]; simp
    · have hf : z.fund = 200 := by rw [← e]; exact hy
      rw [hf, h2] at hz
      rw [hz]; simp⟩⟩
theorem t_funds : IsFunds [tA, tB] [⟨100, 0, 0, 5⟩, ⟨200, 0, 0, -5⟩] := two_funds rfl rfl (by decide +kernel) (by decide +kernel)
theorem t_bal : balanceL [⟨100, 0, 0, 5⟩, ⟨200, 0, 0, -5⟩] = [tC, tD] := by kernel_rfl
def tF0 : Fun := (openOf noF 2020).1
theorem open_none {q : List UInt8} (h : (keyOf 66 [2020]).isPrefixOf q = true) : tF0 q = none := by
  obtain ⟨r, rfl⟩ := pre_head h
  rfl
theorem t_stands0 : Stands 2020 [] tF0 := stands_new fun q h => open_none h
theorem t_ok : (standF tF0 2020 0 0 [tA, tB, tC, tD]).2.2 = 0 := by decide +kernel
theorem t_stands : Stands 2020 [tA, tB, tC, tD] (standF tF0 2020 0 0 [tA, tB, tC, tD]).1 := by
  have h : (entryF tF0 2020 0 0 [tA, tB] [tA, tB, tC, tD]) = standF tF0 2020 0 0 [tA, tB, tC, tD] := by unfold entryF; rw [if_neg (by decide)]
  have := entry_stands (f := tF0) (y := 2020) (kind := 0) (of := 0) (l := [tA, tB]) (all := [tA, tB, tC, tD]) (T := []) t_stands0 (by rw [h]; exact t_ok)
  rw [h] at this
  exact this
def tK : List Bk := [(100, 2900), (100, 5010), (200, 1010), (200, 1900)]
theorem t_scan : ScanIs (standF tF0 2020 0 0 [tA, tB, tC, tD]).1 (keyOf 66 [2020]) (tK.map fun k => (balK 2020 k.1 k.2, be 8 (gsum [tA, tB, tC, tD] k))) :=
  scan_stands t_stands (by
    rw [List.pairwise_map]
    unfold keyLt
    decide +kernel) (by
    intro k hk
    simp only [tK, List.mem_cons, List.not_mem_nil, or_false] at hk
    rcases hk with rfl | rfl | rfl | rfl <;> exact ⟨⟨⟨by decide, by decide⟩, ⟨by decide, by decide⟩⟩, by decide +kernel⟩) (by
    intro x hx
    simp only [List.mem_cons, List.not_mem_nil, or_false] at hx
    rcases hx with rfl | rfl | rfl | rfl <;> decide +kernel)
theorem t_all : allB 2020 (tK.map fun k => (balK 2020 k.1 k.2, be 8 (gsum [tA, tB, tC, tD] k))) = [tC, tA, tB, tD] := by kernel_rfl
theorem t_sums : sumsL [tC, tA, tB, tD] = [⟨100, 5, 5⟩, ⟨200, 5, 5⟩] := by kernel_rfl
theorem t_from : dueL [tC, tA, tB, tD] 1900 = 5 := by decide +kernel
theorem t_to : w64 (0 - dueL [tC, tA, tB, tD] 2900) = 5 := by decide +kernel
theorem t_right : rightT [tC, tA, tB, tD] = true := by decide +kernel
end Go.Proofs.Lx
/- Room for more lines: slices.Grow, by the kit's law. -/
set_option linter.unusedSimpArgs false
set_option linter.unusedVariables false
namespace Go.Proofs.Lx
open Go.Vm Go.RowKit
attribute [local irreducible] awpArr awpBin awpMake awpAppend awpCvX awpStrOf awpBinX awpSlice awpBS awpStore awpAlloc awpCopy awpIndex awpDraw awpIdxX awpFa awpField awpLookup awpUpdate awpDelete awpClear awpRange awpNext awpEntry awpBuild awpClearS awpIdxL awpTree appB awpIdxO eltA treeA
def growSpec : Vm.Spec := fun args h Q => ∃ n : Nat, args = [.v (.slice none 0 0), .v (.int .i64 n)] ∧ 1 ≤ n ∧ n ≤ 1048576 ∧ Q (.own true 53 4 []) h
theorem elemIn_inv {P : Program} {t e e' : TypeId} {sz bs : Nat} (hu : P.underlying t = some (.slice e)) (he : elemIn P t = some (e', sz, bs)) : ∃ i0 z, P.info? e = some i0 ∧ i0.zero = some z ∧ i0.size = sz ∧ i0.bytes = bs ∧ z.cells.size = sz := by
  unfold elemIn at he
  rw [hu] at he
  simp only at he
  cases hi : P.info? e with
  | none => rw [hi] at he; cases he
  | some i0 =>
    rw [hi] at he
    simp only at he
    cases hz : i0.zero with
    | none => rw [hz] at he; cases he
    | some z =>
      rw [hz] at he
      simp only at he
      split at he
      · rename_i hc
        injection he with he
        injection he with _ he
        injection he with e1 e2
        exact ⟨i0, z, rfl, hz, e1, e2, hc.1.trans e1⟩
      · cases he
theorem does_growLn : Does Tryz.prog 122 growSpec := by
  refine ⟨⟨Tryz.f122, Tryz.func122, by kernel_rfl, by decide +kernel⟩, ?_⟩
  rintro args h Q ⟨n, rfl, hn1, hn2, hq⟩ w g vs hvs hrep hh hfr hlaid
  have hv0 : vs.getD 0 undef = .slice none 0 0 := (rep_v (hrep 0 _ rfl)).1
  have hv1 : vs.getD 1 undef = .int .i64 n := (rep_v (hrep 1 _ rfl)).1
  have hvs2 : vs = #[.slice none 0 0, .int .i64 n] := by
    have h2 : vs.size = 2 := hvs
    apply Array.ext
    · simpa using h2
    · intro i hi1 hi2
      have : i = 0 ∨ i = 1 := by omega
      rcases this with rfl | rfl
      · simpa [Array.getD, h2] using hv0
      · simpa [Array.getD, h2] using hv1
  subst hvs2
  have hi : ∃ i0 z, Tryz.prog.info? 53 = some i0 ∧ i0.zero = some z ∧ i0.size = 4 ∧ i0.bytes = 32 ∧ z.cells.size = 4 :=
    elemIn_inv Tryz.underlying51 ei51
  obtain ⟨i0, z, hi0, hz0, hs0, hb0, hzs⟩ := hi
  have key : Calls Tryz.prog 122 #[.slice none 0 0, .int .i64 n] w fun e w' => e = .returned (.slice (some ⟨w.heap.size, 0, none⟩) 0 (grownCap w (0 + n) 0 53)) ∧
      w' = w.drew.alloc (.cells (([] : List Value).toArray ++ Builtin.zeroCells z.cells (0 + n - 0) ++ Builtin.zeroCells z.cells (grownCap w (0 + n) 0 53 - (0 + n))) 53) :=
    Any8.slices_Grow_grow Tryz.growLine i0 z hi0 hz0 (by omega) none 0 0 n [] w (Nat.le_refl _) (by omega) (by rw [hb0]; omega) (by omega) (by simp) (fun _ => rfl) (fun a ha => by cases ha)
  have hGn := grownCap_ge w (0 + n) 0 53
  have hGm := grownCap_le_maxLen w (0 + n) 0 53 (by unfold maxLen; omega)
  generalize grownCap w (0 + n) 0 53 = G at key hGn hGm
  have hcz : ∀ m, (Builtin.zeroCells z.cells m).size = m * 4 := fun m => by rw [← hzs]; exact size_zeroCells _ _
  obtain ⟨cur, hcur⟩ : ∃ cur, cur = ([] : List Value).toArray ++ Builtin.zeroCells z.cells (0 + n - 0) ++ Builtin.zeroCells z.cells (G - (0 + n)) := ⟨_, rfl⟩
  have hcs : cur.size = G * 4 := by rw [hcur, Array.size_append, Array.size_append, hcz, hcz]; simp; omega
  rw [← hcur] at key
  refine key.mono ?_
  rintro e w' ⟨rfl, rfl⟩
  have hget : ∀ k, k < w.heap.size → (w.drew.alloc (.cells cur 53)).heap[k]? = w.heap[k]? := fun k hk => by
    show (w.heap.push _)[k]? = _
    rw [Array.getElem?_push, if_neg (by omega)]
  have hlast : (w.drew.alloc (.cells cur 53)).heap[w.heap.size]? = some (.cells cur 53 (0, 0)) := by
    show (w.heap.push _)[w.heap.size]? = _
    rw [Array.getElem?_push, if_pos rfl]
  have hsize : (w.drew.alloc (.cells cur 53)).heap.size = w.heap.size + 1 := by
    show (w.heap.push _).size = _
    rw [Array.size_push]
  have hos : (w.drew.alloc (.cells cur 53)).os = w.os ∧ (w.drew.alloc (.cells cur 53)).tape = w.tape ∧ (w.drew.alloc (.cells cur 53)).output = w.output := ⟨rfl, rfl, rfl⟩
  generalize w.drew.alloc (.cells cur 53) = w' at hget hlast hsize hos ⊢
  have hk : Keeps w g w' g := ⟨fun _ => Nat.le_refl _, fun k j v hj hv => by
    have hkl : k < w.heap.size := by
      rcases Nat.lt_or_ge k w.heap.size with h | h
      · exact h
      · rw [hfr k h] at hj; omega
    rw [World.cell?_of_block (a := ⟨k, j, none⟩) (hget k hkl)]; exact hv, Nat.le_refl _, fun _ _ => rfl⟩
  refine ⟨.own true 53 4 [], h, g, _, hq, rfl, ⟨⟨by decide, by simp, [], ⟨by simp, .inr ⟨w.heap.size, G, cur, rfl, Nat.le_refl _, hlast, Nat.zero_le _, hGm, hcs, by simp⟩⟩, by simp, fun j u hu => by simp [flat] at hu, fun b hb => ?_⟩, fun b hb k hk2 => ?_⟩, ?_, ?_, Nat.le_refl _, fun _ _ => rfl, fun _ _ => rfl, fun i hi1 hi2 => by omega, fun b hb => hfr b (by omega)⟩
  · simp only [Value.ownBlock, Option.some.injEq] at hb
    subst hb
    rw [hfr _ (Nat.le_refl _)]
    exact Nat.zero_le _
  · simp only [Value.ownBlock, Option.some.injEq] at hb
    subst hb
    have := hh.lt k hk2
    omega
  · exact ⟨hh.n, fun i hi => by have := hh.lt i hi; omega, hh.inj, fun i o ho => (hh.obj i o ho).keepAt hk ⟨hget _ (hh.lt i (by rw [← hh.n]; exact get_lt ho)), rfl⟩⟩
  · exact ⟨hos.1, hos.2.1, hos.2.2, by omega, fun k hk2 _ => hget k hk2⟩
end Go.Proofs.Lx
/- Lines one behind the other: Grow, Concat, Clone; what funds owe one another. -/
set_option linter.unusedSimpArgs false
set_option linter.unusedVariables false
namespace Go.Proofs.Lx
open Go.Vm Go.RowKit
attribute [local irreducible] awpArr awpBin awpMake awpAppend awpCvX awpStrOf awpBinX awpSlice awpBS awpStore awpAlloc awpCopy awpIndex awpDraw awpIdxX awpFa awpField awpLookup awpUpdate awpDelete awpClear awpRange awpNext awpEntry awpBuild awpClearS awpIdxL awpTree appB awpIdxO eltA treeA
def lnsAv (p : List Ln) : AV := .sl 4 (p.map lnAv)
def concatSpec : Vm.Spec := fun args h Q => ∃ ps : List (List Ln), ps.length ≤ 1048576 ∧ 1 ≤ ps.flatten.length ∧ ps.flatten.length ≤ 1048576 ∧ args = [.sl 1 (ps.map lnsAv)] ∧ Q (.own true 53 4 (ps.flatten.map lnAv)) h
theorem flat_take {α : Type} {ps : List (List α)} {i : Nat} (hi : i < ps.length) : (ps.take (i + 1)).flatten = (ps.take i).flatten ++ ps[i] ∧ (ps.take (i + 1)).flatten.length ≤ ps.flatten.length := by
  constructor
  · rw [List.take_succ_eq_append_getElem hi, List.flatten_append]; simp
  · have e : ps.flatten = (ps.take (i + 1)).flatten ++ (ps.drop (i + 1)).flatten := by rw [← List.flatten_append, List.take_append_drop]
    rw [e, List.length_append]; omega
set_option maxRecDepth 20000 in
set_option maxHeartbeats 1000000 in
theorem does_concatLn : Does Tryz.prog 86 concatSpec := by
  refine does_of_awp (good_cons does_growLn good_nil) Tryz.func86 rfl (by decide +kernel) (by decide +kernel) ?_
  rintro args h Q ⟨ps, hpl, hf1, hf2, rfl, hq⟩
  refine ⟨by simp [Tryz.f86], ?_⟩
  rw [awpFunc_some (by rfl)]
  simp -dsimp only [Vm.G, List.lookup, Nat.reduceAdd, Nat.reduceBEq, Int.reduceBNe, Int.reduceBEq, Nat.reduceLeDiff, q86]
  refine awp_loop (fun m s h' => ∃ i : Nat, i + m = ps.length ∧ h' = h ∧ s = mk [(0, .sl 1 (ps.map lnsAv)), (3, .v (.int .i64 ((ps.take (i)).flatten.length : Nat))), (9, .sl 1 (ps.map lnsAv)), (10, .v (.int .i64 ps.length)), (11, .v (.int .i64 (i : Nat)))])
    ps.length _ (le_mk _ ?_) ⟨0, by omega, rfl, rfl⟩ ?_
  · simp only [List.forall_mem_cons, List.not_mem_nil, false_imp_iff, implies_true, and_true]
    try simp -dsimp only [Vm.G, List.lookup, Nat.reduceAdd, Nat.reduceBEq, Int.reduceBNe, Int.reduceBEq, Nat.reduceLeDiff, q86]
    repeat' first | exact Fg.refl _ | exact Fg.nil _ _ _ (by decide) | refine And.intro ?_ ?_
  · rintro m s h' ⟨i, hi, rfl, rfl⟩
    simp -dsimp only [Vm.G, List.lookup, Nat.reduceAdd, Nat.reduceBEq, Int.reduceBNe, Int.reduceBEq, Nat.reduceLeDiff, q86]
    refine cond_intro (fun hcc => ?_) (fun hcc => ?_)
    · have hlt : i < ps.length := by have := of_decide_eq_true hcc; omega
      have hw : IntKind.i64.wrap ((i : Int) + 1) = ((i + 1 : Nat) : Int) := by rw [wrap_i64 (by omega) (by omega)]; simp
      have hft := flat_take hlt
      rcases hft with ⟨ft1, ft2⟩
      have hsum : (((ps.take i).flatten.length : Nat) : Int) + ((ps[i].length : Nat) : Int) = (((ps.take (i + 1)).flatten.length : Nat) : Int) := by rw [ft1, List.length_append]; omega
      have hxe : ∃ p, ps[i] = p := ⟨_, rfl⟩
      rcases hxe with ⟨p, hp⟩
      rw [hp] at hsum
      have hNe : ∃ N, N = (ps.take (i + 1)).flatten.length := ⟨_, rfl⟩
      rcases hNe with ⟨N, hN⟩
      rw [← hN] at hsum ft2
      have hwn : IntKind.i64.wrap ((N : Nat) : Int) = (N : Int) := wrap_i64 (by omega) (by omega)
      have hneg : decide ((N : Int) < 0) = false := decide_eq_false (by omega)
      simp -dsimp only [Vm.G, List.lookup, Nat.reduceAdd, Nat.reduceBEq, Int.reduceBNe, Int.reduceBEq, Nat.reduceLeDiff, q86]
      refine idx_map lnsAv ps i hlt ?_
      simp only [hp, lnsAv]
      simp -dsimp only [Vm.G, List.lookup, Nat.reduceAdd, Nat.reduceBEq, Int.reduceBNe, Int.reduceBEq, Nat.reduceLeDiff, q86, AV.cells, hsum, hwn, hneg]
      refine kept_intro ⟨ps.length - (i + 1), by omega, _, le_mk [(0, .sl 1 (ps.map lnsAv)), (3, .v (.int .i64 (N : Nat))), (9, .sl 1 (ps.map lnsAv)), (10, .v (.int .i64 ps.length)), (11, .v (.int .i64 (i + 1 : Nat)))] ?_, i + 1, by omega, rfl, ?_⟩
      · simp only [List.forall_mem_cons, List.not_mem_nil, false_imp_iff, implies_true, and_true, hw, lnsAv]
        try simp -dsimp only [Vm.G, List.lookup, Nat.reduceAdd, Nat.reduceBEq, Int.reduceBNe, Int.reduceBEq, Nat.reduceLeDiff, q86, hw, lnsAv]
        repeat' first | exact Fg.refl _ | exact Fg.nil _ _ _ (by decide) | refine And.intro ?_ ?_
      · rw [hN]
    · have hge : ¬ i < ps.length := by have := of_decide_eq_false hcc; omega
      clear hcc
      rw [List.take_of_length_le (by omega)]
      simp -dsimp only [Vm.G, List.lookup, Nat.reduceAdd, Nat.reduceBEq, Int.reduceBNe, Int.reduceBEq, Nat.reduceLeDiff, q86]
      refine call_one (S := growSpec) rfl _ GaL.rfl ⟨ps.flatten.length, rfl, hf1, hf2, ?_⟩
      simp -dsimp only [Vm.G, List.lookup, Nat.reduceAdd, Nat.reduceBEq, Int.reduceBNe, Int.reduceBEq, Nat.reduceLeDiff, q86]
      refine awp_loop (fun m s h2 => ∃ i : Nat, i + m = ps.length ∧ h2 = h' ∧ s = mk [(6, .own true 53 4 ((ps.take (i)).flatten.map lnAv)), (25, .sl 1 (ps.map lnsAv)), (26, .v (.int .i64 ps.length)), (27, .v (.int .i64 (i : Nat)))])
        ps.length _ (le_mk _ ?_) ⟨0, by omega, rfl, rfl⟩ ?_
      · simp only [List.forall_mem_cons, List.not_mem_nil, false_imp_iff, implies_true, and_true]
        try simp -dsimp only [Vm.G, List.lookup, Nat.reduceAdd, Nat.reduceBEq, Int.reduceBNe, Int.reduceBEq, Nat.reduceLeDiff, q86]
        repeat' first | exact Fg.refl _ | exact Fg.nil _ _ _ (by decide) | refine And.intro ?_ ?_
      · clear hge hi
        rintro m s h2 ⟨i, hi, rfl, rfl⟩
        simp -dsimp only [Vm.G, List.lookup, Nat.reduceAdd, Nat.reduceBEq, Int.reduceBNe, Int.reduceBEq, Nat.reduceLeDiff, q86]
        refine cond_intro (fun hcc => ?_) (fun hcc => ?_)
        · have hlt : i < ps.length := by have := of_decide_eq_true hcc; omega
          have hw : IntKind.i64.wrap ((i : Int) + 1) = ((i + 1 : Nat) : Int) := by rw [wrap_i64 (by omega) (by omega)]; simp
          have hft := flat_take hlt
          rcases hft with ⟨ft1, ft2⟩
          have hxe : ∃ p, ps[i] = p := ⟨_, rfl⟩
          rcases hxe with ⟨p, hp⟩
          have hl1 : (ps.take i).flatten.length + p.length ≤ 1048576 := by rw [ft1, hp, List.length_append] at ft2; omega
          rw [hp] at ft1
          simp -dsimp only [Vm.G, List.lookup, Nat.reduceAdd, Nat.reduceBEq, Int.reduceBNe, Int.reduceBEq, Nat.reduceLeDiff, q86]
          refine idx_map lnsAv ps i hlt ?_
          simp only [hp, lnsAv]
          simp -dsimp only [Vm.G, List.lookup, Nat.reduceAdd, Nat.reduceBEq, Int.reduceBNe, Int.reduceBEq, Nat.reduceLeDiff, q86, AV.cells]
          refine app_sl Tryz.underlying51 (fun c hc => by obtain ⟨y, -, rfl⟩ := List.mem_map.1 hc; rfl) (by simp only [List.length_map]; omega) ?_
          simp -dsimp only [Vm.G, List.lookup, Nat.reduceAdd, Nat.reduceBEq, Int.reduceBNe, Int.reduceBEq, Nat.reduceLeDiff, q86]
          refine kept_intro ⟨ps.length - (i + 1), by omega, _, le_mk [(6, .own true 53 4 ((ps.take (i + 1)).flatten.map lnAv)), (25, .sl 1 (ps.map lnsAv)), (26, .v (.int .i64 ps.length)), (27, .v (.int .i64 (i + 1 : Nat)))] ?_, i + 1, by omega, rfl, rfl⟩
          simp only [List.forall_mem_cons, List.not_mem_nil, false_imp_iff, implies_true, and_true, hw, ft1, List.map_append, lnsAv]
          try simp -dsimp only [Vm.G, List.lookup, Nat.reduceAdd, Nat.reduceBEq, Int.reduceBNe, Int.reduceBEq, Nat.reduceLeDiff, q86, hw, ft1, List.map_append, lnsAv]
          repeat' first | exact Fg.refl _ | exact Fg.nil _ _ _ (by decide) | refine And.intro ?_ ?_
        · have hge : ¬ i < ps.length := by have := of_decide_eq_false hcc; omega
          rw [List.take_of_length_le (by omega)]
          simp -dsimp only [Vm.G, List.lookup, Nat.reduceAdd, Nat.reduceBEq, Int.reduceBNe, Int.reduceBEq, Nat.reduceLeDiff, q86]
          exact hq
def cloneLnSpec : Vm.Spec := fun args h Q => ∃ l : List Ln, l.length ≤ 1048576 ∧ args = [.sl 4 (l.map lnAv)] ∧ (∀ v, v = .own true 53 4 (l.map lnAv) ∨ (l = [] ∧ v = .v (.slice none 0 0)) → Q v h)
theorem does_cloneLn : Does Tryz.prog 20 cloneLnSpec := by
  refine does_of_awp good_nil Tryz.func20 rfl (by decide +kernel) (by decide +kernel) ?_
  rintro args h Q ⟨l, hl, rfl, hq⟩
  refine ⟨by simp [Tryz.f20], ?_⟩
  rw [awpFunc_some (by rfl)]
  simp -dsimp only [Vm.G, List.lookup, Nat.reduceAdd, Nat.reduceBEq, Int.reduceBNe, Int.reduceBEq, Nat.reduceLeDiff, q20]
  refine nil_slice Tryz.underlying51 (nilSl_sl fun b hb => ?_)
  cases b
  · simp -dsimp only [Vm.G, List.lookup, Nat.reduceAdd, Nat.reduceBEq, Int.reduceBNe, Int.reduceBEq, Nat.reduceLeDiff, q20]
    refine bs_intro zr53 (by decide) (by decide) rfl rfl (by simp [solid, AV.cells]) ?_
    simp -dsimp only [Vm.G, List.lookup, Nat.reduceAdd, Nat.reduceBEq, Int.reduceBNe, Int.reduceBEq, Nat.reduceLeDiff, q20]
    refine app_sl Tryz.underlying51 (fun c hc => by obtain ⟨y, -, rfl⟩ := List.mem_map.1 hc; rfl) (by simp only [List.length_map, List.length_nil]; omega) ?_
    simp -dsimp only [Vm.G, List.lookup, Nat.reduceAdd, Nat.reduceBEq, Int.reduceBNe, Int.reduceBEq, Nat.reduceLeDiff, q20, List.nil_append]
    exact hq _ (.inl rfl)
  · have hl0 : l = [] := by simpa using hb rfl
    subst hl0
    simp -dsimp only [Vm.G, List.lookup, Nat.reduceAdd, Nat.reduceBEq, Int.reduceBNe, Int.reduceBEq, Nat.reduceLeDiff, q20]
    exact hq _ (.inr ⟨rfl, rfl⟩)
def owedSpec : Vm.Spec := fun args h Q => ∃ x : Ln, args = [lnAv x] ∧ (x.amt > 0 → Q (.own true 53 4 ((owedL x).map lnAv)) h) ∧ (x.amt < 0 → Q (.own true 53 4 ((owedL x).map lnAv)) h) ∧ (x.amt = 0 → Q (.sl 4 ((owedL x).map lnAv)) h)
theorem does_owed0 : Does Tryz.prog 124 (fun args h Q => ∃ x : Ln, args = [lnAv x] ∧ (x.amt > 0 → Q (.own true 53 4 ((owedL x).map lnAv)) h) ∧ (x.amt < 0 → Q (.own true 53 4 ((owedL x).map lnAv)) h) ∧ (x.amt = 0 → Q (.v (.slice none 0 0)) h)) := by
  refine does_of_awp good_nil Tryz.func124 rfl (by decide +kernel) (by decide +kernel) ?_
  rintro args h Q ⟨x, rfl, hq1, hq2, hq3⟩
  refine ⟨by simp [Tryz.f124], ?_⟩
  rw [awpFunc_some (by rfl)]
  unfold owedL at hq1 hq2
  simp only [lnAv, lnCells]
  by_cases h1 : x.amt > 0
  · have c1 : decide (x.amt > 0) = true := decide_eq_true h1
    have hq := hq1 h1
    rw [if_pos h1] at hq
    simp -dsimp only [Vm.G, List.lookup, Nat.reduceAdd, Nat.reduceBEq, Int.reduceBNe, Int.reduceBEq, Nat.reduceLeDiff, q124, c1]
    refine bs_intro zr53 (by decide) (by decide) rfl rfl (by simp [solid, AV.cells]) ?_
    simp -dsimp only [Vm.G, List.lookup, Nat.reduceAdd, Nat.reduceBEq, Int.reduceBNe, Int.reduceBEq, Nat.reduceLeDiff, q124]
    exact hq
  · have c1 : decide (x.amt > 0) = false := decide_eq_false h1
    by_cases h2 : x.amt < 0
    · have c2 : decide (x.amt < 0) = true := decide_eq_true h2
      have hq := hq2 h2
      rw [if_neg h1, if_pos h2] at hq
      simp -dsimp only [Vm.G, List.lookup, Nat.reduceAdd, Nat.reduceBEq, Int.reduceBNe, Int.reduceBEq, Nat.reduceLeDiff, q124, c1, c2]
      refine bs_intro zr53 (by decide) (by decide) rfl rfl (by simp [solid, AV.cells]) ?_
      simp -dsimp only [Vm.G, List.lookup, Nat.reduceAdd, Nat.reduceBEq, Int.reduceBNe, Int.reduceBEq, Nat.reduceLeDiff, q124]
      exact hq
    · have c2 : decide (x.amt < 0) = false := decide_eq_false h2
      simp -dsimp only [Vm.G, List.lookup, Nat.reduceAdd, Nat.reduceBEq, Int.reduceBNe, Int.reduceBEq, Nat.reduceLeDiff, q124, c1, c2]
      exact hq3 (by omega)
theorem does_owed : Does Tryz.prog 124 owedSpec := by
  refine does_owed0.weak.imp ?_
  rintro args h Q ⟨x, rfl, hq1, hq2, hq3⟩
  exact ⟨x, rfl, fun h1 => ⟨_, .refl _, hq1 h1⟩, fun h1 => ⟨_, .refl _, hq2 h1⟩, fun h1 => ⟨_, .nil 4, by
    have e : owedL x = [] := by unfold owedL; rw [if_neg (by omega), if_neg (by omega)]
    have := hq3 h1
    rw [e] at this
    exact this⟩⟩
theorem owed_len (x : Ln) : (owedL x).length ≤ 1 := by
  unfold owedL
  split
  · exact Nat.le_refl _
  · split
    · exact Nat.le_refl _
    · exact Nat.zero_le _
theorem balance_len : ∀ r : List Ln, (balanceL r).length ≤ r.length
  | [] => Nat.zero_le _
  | x :: r => by
    have h1 := owed_len x
    have h2 := balance_len r
    show (owedL x ++ balanceL r).length ≤ r.length + 1
    rw [List.length_append]; omega
theorem balance_take {r : List Ln} {i : Nat} (hi : i < r.length) : balanceL (r.take (i + 1)) = balanceL (r.take i) ++ owedL r[i] := by
  unfold balanceL
  rw [List.take_succ_eq_append_getElem hi, List.flatMap_append]
  simp
def balanceSpec : Vm.Spec := fun args h Q => ∃ l : List Ln, l.length ≤ 1048576 ∧ args = [.sl 4 (l.map lnAv)] ∧ ∀ r h', IsFunds l r → Same h h' [] → Q (.own true 53 4 ((balanceL r).map lnAv)) h'
set_option maxRecDepth 20000 in
set_option maxHeartbeats 1000000 in
theorem does_balance : Does Tryz.prog 87 balanceSpec := by
  refine does_of_awp (good_cons does_funds (good_cons does_owed good_nil)) Tryz.func87 rfl (by decide +kernel) (by decide +kernel) ?_
  rintro args h Q ⟨l, hl, rfl, hq⟩
  refine ⟨by simp [Tryz.f87], ?_⟩
  rw [awpFunc_some (by rfl)]
  simp -dsimp only [Vm.G, List.lookup, Nat.reduceAdd, Nat.reduceBEq, Int.reduceBNe, Int.reduceBEq, Nat.reduceLeDiff, q87]
  refine call_one (S := fundsSpec) rfl _ GaL.rfl ⟨l, by omega, rfl, fun r h1 hr hs1 => ?_⟩
  have hrl := hr.len
  simp -dsimp only [Vm.G, List.lookup, Nat.reduceAdd, Nat.reduceBEq, Int.reduceBNe, Int.reduceBEq, Nat.reduceLeDiff, q87]
  refine awp_loop (fun m s h' => ∃ i : Nat, i + m = r.length ∧ h' = h1 ∧ s = mk [(3, .own true 53 4 ((balanceL (r.take (i))).map lnAv)), (7, .own true 53 4 (r.map lnAv)), (8, .v (.int .i64 r.length)), (9, .v (.int .i64 (i : Nat)))])
    r.length _ (le_mk _ ?_) ⟨0, by omega, rfl, rfl⟩ ?_
  · simp only [List.forall_mem_cons, List.not_mem_nil, false_imp_iff, implies_true, and_true]
    try simp -dsimp only [Vm.G, List.lookup, Nat.reduceAdd, Nat.reduceBEq, Int.reduceBNe, Int.reduceBEq, Nat.reduceLeDiff, q87]
    repeat' first | exact Fg.refl _ | exact Fg.nil _ _ _ (by decide) | refine And.intro ?_ ?_
  · rintro m s h' ⟨i, hi, rfl, rfl⟩
    simp -dsimp only [Vm.G, List.lookup, Nat.reduceAdd, Nat.reduceBEq, Int.reduceBNe, Int.reduceBEq, Nat.reduceLeDiff, q87]
    refine cond_intro (fun hcc => ?_) (fun hcc => ?_)
    · have hlt : i < r.length := by have := of_decide_eq_true hcc; omega
      have hw : IntKind.i64.wrap ((i : Int) + 1) = ((i + 1 : Nat) : Int) := by rw [wrap_i64 (by omega) (by omega)]; simp
      have htk := balance_take hlt
      have hbl := balance_len (r.take i)
      rw [List.length_take] at hbl
      have hgi : (r.map lnAv)[i]? = some (lnAv r[i]) := by simp [hlt]
      generalize r[i] = x at htk hgi
      have hol := owed_len x
      simp -dsimp only [Vm.G, List.lookup, Nat.reduceAdd, Nat.reduceBEq, Int.reduceBNe, Int.reduceBEq, Nat.reduceLeDiff, q87]
      refine idxO_intro (by omega) (by simp; omega) ?_
      simp -dsimp only [Vm.G, List.lookup, Nat.reduceAdd, Nat.reduceBEq, Int.reduceBNe, Int.reduceBEq, Nat.reduceLeDiff, q87, Int.toNat_natCast]
      refine eltA_intro hgi ?_
      simp only [lnAv, lnCells]
      simp -dsimp only [Vm.G, List.lookup, Nat.reduceAdd, Nat.reduceBEq, Int.reduceBNe, Int.reduceBEq, Nat.reduceLeDiff, q87, AV.cells, List.drop_zero]
      refine call_one (S := owedSpec) rfl _ GaL.rfl ⟨x, rfl, fun h3 => ?_, fun h3 => ?_, fun h3 => ?_⟩
      · simp -dsimp only [Vm.G, List.lookup, Nat.reduceAdd, Nat.reduceBEq, Int.reduceBNe, Int.reduceBEq, Nat.reduceLeDiff, q87]
        refine app_sl Tryz.underlying51 (fun c hc => by obtain ⟨y, -, rfl⟩ := List.mem_map.1 hc; rfl) (by simp only [List.length_map]; omega) ?_
        simp -dsimp only [Vm.G, List.lookup, Nat.reduceAdd, Nat.reduceBEq, Int.reduceBNe, Int.reduceBEq, Nat.reduceLeDiff, q87]
        refine kept_intro ⟨r.length - (i + 1), by omega, _, le_mk [(3, .own true 53 4 ((balanceL (r.take (i + 1))).map lnAv)), (7, .own true 53 4 (r.map lnAv)), (8, .v (.int .i64 r.length)), (9, .v (.int .i64 (i + 1 : Nat)))] ?_, i + 1, by omega, rfl, rfl⟩
        simp only [List.forall_mem_cons, List.not_mem_nil, false_imp_iff, implies_true, and_true, hw, htk, List.map_append]
        try simp -dsimp only [Vm.G, List.lookup, Nat.reduceAdd, Nat.reduceBEq, Int.reduceBNe, Int.reduceBEq, Nat.reduceLeDiff, q87, hw, htk, List.map_append]
        repeat' first | exact Fg.refl _ | exact Fg.nil _ _ _ (by decide) | refine And.intro ?_ ?_
      · simp -dsimp only [Vm.G, List.lookup, Nat.reduceAdd, Nat.reduceBEq, Int.reduceBNe, Int.reduceBEq, Nat.reduceLeDiff, q87]
        refine app_sl Tryz.underlying51 (fun c hc => by obtain ⟨y, -, rfl⟩ := List.mem_map.1 hc; rfl) (by simp only [List.length_map]; omega) ?_
        simp -dsimp only [Vm.G, List.lookup, Nat.reduceAdd, Nat.reduceBEq, Int.reduceBNe, Int.reduceBEq, Nat.reduceLeDiff, q87]
        refine kept_intro ⟨r.length - (i + 1), by omega, _, le_mk [(3, .own true 53 4 ((balanceL (r.take (i + 1))).map lnAv)), (7, .own true 53 4 (r.map lnAv)), (8, .v (.int .i64 r.length)), (9, .v (.int .i64 (i + 1 : Nat)))] ?_, i + 1, by omega, rfl, rfl⟩
        simp only [List.forall_mem_cons, List.not_mem_nil, false_imp_iff, implies_true, and_true, hw, htk, List.map_append]
        try simp -dsimp only [Vm.G, List.lookup, Nat.reduceAdd, Nat.reduceBEq, Int.reduceBNe, Int.reduceBEq, Nat.reduceLeDiff, q87, hw, htk, List.map_append]
        repeat' first | exact Fg.refl _ | exact Fg.nil _ _ _ (by decide) | refine And.intro ?_ ?_
      · simp -dsimp only [Vm.G, List.lookup, Nat.reduceAdd, Nat.reduceBEq, Int.reduceBNe, Int.reduceBEq, Nat.reduceLeDiff, q87]
        refine app_sl Tryz.underlying51 (fun c hc => by obtain ⟨y, -, rfl⟩ := List.mem_map.1 hc; rfl) (by simp only [List.length_map]; omega) ?_
        simp -dsimp only [Vm.G, List.lookup, Nat.reduceAdd, Nat.reduceBEq, Int.reduceBNe, Int.reduceBEq, Nat.reduceLeDiff, q87]
        refine kept_intro ⟨r.length - (i + 1), by omega, _, le_mk [(3, .own true 53 4 ((balanceL (r.take (i + 1))).map lnAv)), (7, .own true 53 4 (r.map lnAv)), (8, .v (.int .i64 r.length)), (9, .v (.int .i64 (i + 1 : Nat)))] ?_, i + 1, by omega, rfl, rfl⟩
        simp only [List.forall_mem_cons, List.not_mem_nil, false_imp_iff, implies_true, and_true, hw, htk, List.map_append]
        try simp -dsimp only [Vm.G, List.lookup, Nat.reduceAdd, Nat.reduceBEq, Int.reduceBNe, Int.reduceBEq, Nat.reduceLeDiff, q87, hw, htk, List.map_append]
        repeat' first | exact Fg.refl _ | exact Fg.nil _ _ _ (by decide) | refine And.intro ?_ ?_
    · have hge : ¬ i < r.length := by have := of_decide_eq_false hcc; omega
      rw [List.take_of_length_le (by omega)]
      simp -dsimp only [Vm.G, List.lookup, Nat.reduceAdd, Nat.reduceBEq, Int.reduceBNe, Int.reduceBEq, Nat.reduceLeDiff, q87]
      exact hq r _ hr hs1
def allLSpec : Vm.Spec := fun args h Q => ∃ l : List Ln, 1 ≤ l.length ∧ l.length ≤ 4096 ∧ args = [.sl 4 (l.map lnAv)] ∧ ∀ r h', IsFunds l r → Same h h' [] → Q (.own true 53 4 ((l ++ balanceL r).map lnAv)) h'
set_option maxHeartbeats 1000000 in
theorem does_allL : Does Tryz.prog 55 allLSpec := by
  refine does_of_awp (good_cons does_balance (good_cons does_concatLn good_nil)) Tryz.func55 rfl (by decide +kernel) (by decide +kernel) ?_
  rintro args h Q ⟨l, hl1, hl2, rfl, hq⟩
  refine ⟨by simp [Tryz.f55], ?_⟩
  rw [awpFunc_some (by rfl)]
  simp -dsimp only [Vm.G, List.lookup, Nat.reduceAdd, Nat.reduceBEq, Int.reduceBNe, Int.reduceBEq, Nat.reduceLeDiff, q55]
  refine call_one (S := balanceSpec) rfl _ GaL.rfl ⟨l, by omega, rfl, fun r h1 hr hs1 => ?_⟩
  have hbl := balance_len r
  have hrl := hr.len
  simp -dsimp only [Vm.G, List.lookup, Nat.reduceAdd, Nat.reduceBEq, Int.reduceBNe, Int.reduceBEq, Nat.reduceLeDiff, q55]
  refine bs_intro zr51 (by decide) (by decide) rfl rfl (by simp [solid, AV.cells]) ?_
  simp -dsimp only [Vm.G, List.lookup, Nat.reduceAdd, Nat.reduceBEq, Int.reduceBNe, Int.reduceBEq, Nat.reduceLeDiff, q55]
  refine call_one (S := concatSpec) rfl _ GaL.rfl ⟨[l, balanceL r], by simp, by simp; omega, by simp; omega, rfl, ?_⟩
  simp -dsimp only [Vm.G, List.lookup, Nat.reduceAdd, Nat.reduceBEq, Int.reduceBNe, Int.reduceBEq, Nat.reduceLeDiff, q55]
  have e : [l, balanceL r].flatten = l ++ balanceL r := by simp
  rw [e]
  exact hq r h1 hr hs1
end Go.Proofs.Lx
/- An entry stands: entry.stand, entry.Put. -/
set_option linter.unusedSimpArgs false
set_option linter.unusedVariables false
namespace Go.Proofs.Lx
open Go.Vm
attribute [local irreducible] awpArr awpBin awpMake awpAppend awpCvX awpStrOf awpBinX awpSlice awpBS awpStore awpAlloc awpCopy awpIndex awpDraw awpIdxX awpFa awpField awpLookup awpUpdate awpDelete awpClear awpRange awpNext awpEntry awpBuild awpClearS awpIdxL awpTree appB awpIdxO eltA treeA
def standSpec : Vm.Spec := fun args h Q => ∃ (V : VId) (f : Fun) (e : En) (all : List Ln), e.ok ∧ (∀ x ∈ all, x.ok) ∧ all.length ≤ 1048576 ∧ args = [.agg [.ptr V.iv 0], .agg (enCells e), .sl 4 (all.map lnAv)] ∧ isView h V f ∧
  ∀ h', isView h' V (standF f e.year e.kind e.of' all).1 → Same h h' [V.ic] → Q (.tup [.v (.int .i64 (standF f e.year e.kind e.of' all).2.1), .v (.int .i64 (standF f e.year e.kind e.of' all).2.2)]) h'
theorem post_cons (y id : Int) (i : Nat) (x : Ln) (r : List Ln) (f : Fun) : postL y id i (x :: r) f = if (balAdd (upd f (jK id i) (some (jV x))) (balK y x.fund x.obj) x.amt).2 ≠ 0 then balAdd (upd f (jK id i) (some (jV x))) (balK y x.fund x.obj) x.amt
    else postL y id (i + 1) r (balAdd (upd f (jK id i) (some (jV x))) (balK y x.fund x.obj) x.amt).1 := rfl
set_option maxRecDepth 20000 in
set_option maxHeartbeats 4000000 in
theorem does_stand : Does Tryz.prog 54 standSpec := by
  refine does_of_awp (good_cons does_yCheck (good_cons does_seqNext (good_cons does_post (good_cons does_recEn (good_cons does_jset good_nil))))) Tryz.func54 rfl (by decide +kernel) (by decide +kernel) ?_
  rintro args h Q ⟨V, f, e, all, heo, hao, hal, rfl, hV, hq⟩
  refine ⟨by simp [Tryz.f54], ?_⟩
  rw [awpFunc_some (by rfl)]
  rcases e with ⟨eid, y, kind, elines, of', eby⟩
  rcases heo with ⟨o1, o2, o3, o4, o5, o6⟩
  simp only at hq o1 o2 o3 o4 o5 o6
  simp only [enCells]
  simp -dsimp only [Vm.G, List.lookup, Nat.reduceAdd, Nat.reduceBEq, Int.reduceBNe, Int.reduceBEq, Nat.reduceLeDiff, q54]
  refine call_one (S := yCheckSpec) rfl _ GaL.rfl ⟨V, f, y, rfl, hV, ?_⟩
  have h0 := Bool.eq_false_or_eq_true (checkY f y != 0)
  rcases h0 with c | c
  · have d : checkY f y ≠ 0 := by simpa using c
    have hsf : standF f y kind of' all = (f, 0, checkY f y) := by unfold standF; rw [if_pos d]
    rw [hsf] at hq
    simp -dsimp only [Vm.G, List.lookup, Nat.reduceAdd, Nat.reduceBEq, Int.reduceBNe, Int.reduceBEq, Nat.reduceLeDiff, q54, c]
    exact hq h hV (.refl _ _)
  · have d : ¬ checkY f y ≠ 0 := by simpa using c
    simp -dsimp only [Vm.G, List.lookup, Nat.reduceAdd, Nat.reduceBEq, Int.reduceBNe, Int.reduceBEq, Nat.reduceLeDiff, q54, c]
    refine call_one (S := seqNextSpec) rfl _ GaL.rfl ⟨V, f, 1, rfl, hV, fun hb => ?_, fun hb h1 hV1 hs1 => ?_⟩
    · have hsf : standF f y kind of' all = (f, 0, 9) := by unfold standF; rw [if_neg d, if_pos hb]
      rw [hsf] at hq
      simp -dsimp only [Vm.G, List.lookup, Nat.reduceAdd, Nat.reduceBEq, Int.reduceBNe, Int.reduceBEq, Nat.reduceLeDiff, q54]
      exact hq h hV (.refl _ _)
    · have hsf : standF f y kind of' all = if (postL y (readOf f (seqKey 1) + 1) 0 all (upd f (seqKey 1) (some (be 8 (readOf f (seqKey 1) + 1))))).2 ≠ 0 then
          ((postL y (readOf f (seqKey 1) + 1) 0 all (upd f (seqKey 1) (some (be 8 (readOf f (seqKey 1) + 1))))).1, 0, (postL y (readOf f (seqKey 1) + 1) 0 all (upd f (seqKey 1) (some (be 8 (readOf f (seqKey 1) + 1))))).2)
          else (upd (postL y (readOf f (seqKey 1) + 1) 0 all (upd f (seqKey 1) (some (be 8 (readOf f (seqKey 1) + 1))))).1 (enK (readOf f (seqKey 1) + 1)) (some (enV y kind all.length of' 0)), readOf f (seqKey 1) + 1, 0) := by
        unfold standF; rw [if_neg d, if_neg hb]
      rw [hsf] at hq
      have hid : I64 (readOf f (seqKey 1) + 1) := by unfold I64; omega
      clear hsf d hb c
      generalize readOf f (seqKey 1) + 1 = id at hq hid hV1 ⊢
      generalize upd f (seqKey 1) (some (be 8 id)) = f1 at hq hV1
      simp -dsimp only [Vm.G, List.lookup, Nat.reduceAdd, Nat.reduceBEq, Int.reduceBNe, Int.reduceBEq, Nat.reduceLeDiff, q54, bne_self_eq_false]
      refine awp_loop (fun m s h' => ∃ (i : Nat) (f2 : Fun), i + m = all.length ∧ isView h' V f2 ∧ Same h h' [V.ic] ∧ postL y id 0 all f1 = postL y id i (all.drop i) f2 ∧ s = mk [(2, .sl 4 (all.map lnAv)), (3, .box [.ptr V.iv 0]), (4, .box [.v (.int .i64 eid), .v (.int .i64 y), .v (.int .i64 kind), .v (.int .i64 elines), .v (.int .i64 of'), .v (.int .i64 eby)]), (9, .v (.int .i64 id)), (32, .sl 4 (all.map lnAv)), (33, .v (.int .i64 all.length)), (34, .v (.int .i64 (i : Nat)))])
        all.length _ (le_mk _ ?_) ⟨0, f1, by omega, hV1, hs1, by rw [List.drop_zero], rfl⟩ ?_
      · simp only [List.forall_mem_cons, List.not_mem_nil, false_imp_iff, implies_true, and_true]
        try simp -dsimp only [Vm.G, List.lookup, Nat.reduceAdd, Nat.reduceBEq, Int.reduceBNe, Int.reduceBEq, Nat.reduceLeDiff, q54]
        repeat' first | exact Fg.refl _ | exact Fg.nil _ _ _ (by decide) | refine And.intro ?_ ?_
      · rintro m s h' ⟨i, f2, hi, hV2, hs2, hp, rfl⟩
        simp -dsimp only [Vm.G, List.lookup, Nat.reduceAdd, Nat.reduceBEq, Int.reduceBNe, Int.reduceBEq, Nat.reduceLeDiff, q54]
        refine cond_intro (fun hcc => ?_) (fun hcc => ?_)
        · have hlt : i < all.length := by have := of_decide_eq_true hcc; omega
          have hw : IntKind.i64.wrap ((i : Int) + 1) = ((i + 1 : Nat) : Int) := by rw [wrap_i64 (by omega) (by omega)]; simp
          have hxo := hao all[i] (List.getElem_mem hlt)
          have hxe : ∃ x, all[i] = x := ⟨_, rfl⟩
          rcases hxe with ⟨x, hx⟩
          rw [hx] at hxo
          rw [List.drop_eq_getElem_cons hlt, hx, post_cons] at hp
          simp -dsimp only [Vm.G, List.lookup, Nat.reduceAdd, Nat.reduceBEq, Int.reduceBNe, Int.reduceBEq, Nat.reduceLeDiff, q54]
          refine idx_map lnAv all i hlt ?_
          simp only [hx, lnAv, lnCells]
          simp -dsimp only [Vm.G, List.lookup, Nat.reduceAdd, Nat.reduceBEq, Int.reduceBNe, Int.reduceBEq, Nat.reduceLeDiff, q54, AV.cells]
          refine call_one (S := postSpec) rfl _ GaL.rfl ⟨V, f2, y, id, i, x, hid, by unfold I64; omega, hxo, rfl, hV2, fun h3 g1 g2 => ?_⟩
          generalize balAdd (upd f2 (jK id i) (some (jV x))) (balK y x.fund x.obj) x.amt = q at hp g1 ⊢
          rcases q with ⟨f3, qe⟩
          simp only at hp g1 ⊢
          have h0 := Bool.eq_false_or_eq_true (qe != 0)
          rcases h0 with c | c
          · have d : qe ≠ 0 := by simpa using c
            rw [if_pos d] at hp
            rw [hp, if_pos d] at hq
            simp -dsimp only [Vm.G, List.lookup, Nat.reduceAdd, Nat.reduceBEq, Int.reduceBNe, Int.reduceBEq, Nat.reduceLeDiff, q54, c]
            exact hq h3 g1 (hs2.trans g2)
          · have d : ¬ qe ≠ 0 := by simpa using c
            rw [if_neg d] at hp
            simp -dsimp only [Vm.G, List.lookup, Nat.reduceAdd, Nat.reduceBEq, Int.reduceBNe, Int.reduceBEq, Nat.reduceLeDiff, q54, c]
            refine kept_intro ⟨all.length - (i + 1), by omega, _, le_mk [(2, .sl 4 (all.map lnAv)), (3, .box [.ptr V.iv 0]), (4, .box [.v (.int .i64 eid), .v (.int .i64 y), .v (.int .i64 kind), .v (.int .i64 elines), .v (.int .i64 of'), .v (.int .i64 eby)]), (9, .v (.int .i64 id)), (32, .sl 4 (all.map lnAv)), (33, .v (.int .i64 all.length)), (34, .v (.int .i64 (i + 1 : Nat)))] ?_, i + 1, f3, by omega, g1, hs2.trans g2, hp, rfl⟩
            simp only [List.forall_mem_cons, List.not_mem_nil, false_imp_iff, implies_true, and_true, hw]
            try simp -dsimp only [Vm.G, List.lookup, Nat.reduceAdd, Nat.reduceBEq, Int.reduceBNe, Int.reduceBEq, Nat.reduceLeDiff, q54, hw]
            repeat' first | exact Fg.refl _ | exact Fg.nil _ _ _ (by decide) | refine And.intro ?_ ?_
        · have hge : ¬ i < all.length := by have := of_decide_eq_false hcc; omega
          rw [List.drop_eq_nil_of_le (by omega)] at hp
          have hp2 : postL y id 0 all f1 = (f2, 0) := hp
          rw [hp2] at hq
          simp only [ne_eq, not_true, if_false] at hq
          have hal2 : I64 (all.length : Int) := by unfold I64; omega
          clear hcc hp hp2
          simp -dsimp only [Vm.G, List.lookup, Nat.reduceAdd, Nat.reduceBEq, Int.reduceBNe, Int.reduceBEq, Nat.reduceLeDiff, q54]
          refine draw_cont [3, 4] (.take 0 (.take 1 (.alt 2 (.alt 3 (.alt 4 (.done) .stop) .stop) .stop))) (fun s h3 => isView h3 V (upd f2 (enK id) (some (enV y kind all.length of' 0))) ∧ Same h h3 [V.ic] ∧ s 14 = .v (.int .i64 0) ∧ s 9 = .v (.int .i64 id)) (by kernel_rfl) (by kernel_rfl) (by kernel_rfl) (by decide) ?_ ?_
          · clear hq
            simp -dsimp only [Vm.G, List.lookup, Nat.reduceAdd, Nat.reduceBEq, Int.reduceBNe, Int.reduceBEq, Nat.reduceLeDiff, q54, AV.cells]
            refine call_one (S := renSpec) rfl _ GaL.rfl ⟨⟨id, y, kind, all.length, of', 0⟩, ⟨hid, o2, o3, hal2, o5, show I64 0 by unfold I64; omega⟩, rfl, ?_⟩
            simp -dsimp only [Vm.G, List.lookup, Nat.reduceAdd, Nat.reduceBEq, Int.reduceBNe, Int.reduceBEq, Nat.reduceLeDiff, q54]
            refine call_one (S := dsetSpec) rfl _ GaL.rfl ⟨V, f2, enK id, enV y kind all.length of' 0, rfl, right_en _ _ _ _ _ _, hV2, fun h3 g1 g2 => ?_⟩
            simp -dsimp only [Vm.G, List.lookup, Nat.reduceAdd, Nat.reduceBEq, Int.reduceBNe, Int.reduceBEq, Nat.reduceLeDiff, q54]
            refine ⟨g1, hs2.trans g2, ?_⟩
            repeat' first | rfl | exact True.intro | refine And.intro ?_ ?_
          · rintro s h3 ⟨g1, g2, e14, e9⟩
            simp -dsimp only [Vm.G, List.lookup, Nat.reduceAdd, Nat.reduceBEq, Int.reduceBNe, Int.reduceBEq, Nat.reduceLeDiff, q54, e14, e9, bne_self_eq_false]
            exact hq h3 g1 g2
def entrySpec : Vm.Spec := fun args h Q => ∃ (V : VId) (f : Fun) (e : En) (l : List Ln), e.ok ∧ (∀ x ∈ l, x.ok) ∧ l.length ≤ 1048576 ∧ args = [.ptr V.iv 0, .agg (enCells e), .sl 4 (l.map lnAv)] ∧ isView h V f ∧
  (l.length = 0 ∨ 200 < l.length → Q (.tup [.v (.int .i64 0), .v (.int .i64 1)]) h) ∧
  (¬ (l.length = 0 ∨ 200 < l.length) → ∀ r h', IsFunds l r → isView h' V (standF f e.year e.kind e.of' (l ++ balanceL r)).1 → Same h h' [V.ic] → Q (.tup [.v (.int .i64 (standF f e.year e.kind e.of' (l ++ balanceL r)).2.1), .v (.int .i64 (standF f e.year e.kind e.of' (l ++ balanceL r)).2.2)]) h')
theorem balance_ok {r : List Ln} {l : List Ln} (hr : IsFunds l r) (hl : ∀ x ∈ l, x.ok) : ∀ x ∈ balanceL r, x.ok := fun x hx => by
  obtain ⟨y, hy, hxy⟩ := List.mem_flatMap.1 hx
  obtain ⟨⟨z, hz, e1⟩, e2⟩ := (hr.2 y).1 hy
  have hf : I64 y.fund := by rw [← e1]; exact (hl z hz).1
  unfold owedL at hxy
  split at hxy
  · rw [List.mem_singleton] at hxy; subst hxy
    exact ⟨hf, show I64 2900 by unfold I64; omega, show I64 0 by unfold I64; omega, w64_range _⟩
  · split at hxy
    · rw [List.mem_singleton] at hxy; subst hxy
      exact ⟨hf, show I64 1900 by unfold I64; omega, show I64 0 by unfold I64; omega, w64_range _⟩
    · simp at hxy
set_option maxRecDepth 20000 in
set_option maxHeartbeats 1000000 in
theorem does_entry : Does Tryz.prog 21 entrySpec := by
  refine does_of_awp (good_cons does_allL (good_cons does_stand good_nil)) Tryz.func21 rfl (by decide +kernel) (by decide +kernel) ?_
  rintro args h Q ⟨V, f, e, l, heo, hlo, hl, rfl, hV, hq1, hq2⟩
  refine ⟨by simp [Tryz.f21], ?_⟩
  rw [awpFunc_some (by rfl)]
  have h0 := Bool.eq_false_or_eq_true ((l.length : Int) == 0)
  rcases h0 with c | c
  · have d : l.length = 0 := by
      have : (l.length : Int) = 0 := by simpa using c
      omega
    simp only [enCells]
    simp -dsimp only [Vm.G, List.lookup, Nat.reduceAdd, Nat.reduceBEq, Int.reduceBNe, Int.reduceBEq, Nat.reduceLeDiff, q21, c]
    exact hq1 (.inl d)
  · have d : ¬ l.length = 0 := by
      have : ¬ (l.length : Int) = 0 := by simpa using c
      omega
    have h0 := Bool.eq_false_or_eq_true (decide ((l.length : Int) > 200))
    rcases h0 with c2 | c2
    · have d2 : 200 < l.length := by have := of_decide_eq_true c2; omega
      simp only [enCells]
      simp -dsimp only [Vm.G, List.lookup, Nat.reduceAdd, Nat.reduceBEq, Int.reduceBNe, Int.reduceBEq, Nat.reduceLeDiff, q21, c, c2]
      exact hq1 (.inr d2)
    · have d2 : ¬ 200 < l.length := by have := of_decide_eq_false c2; omega
      have hq := hq2 (by omega)
      clear hq1 hq2
      rcases e with ⟨eid, y, kind, elines, of', eby⟩
      simp only at hq
      simp only [enCells]
      simp -dsimp only [Vm.G, List.lookup, Nat.reduceAdd, Nat.reduceBEq, Int.reduceBNe, Int.reduceBEq, Nat.reduceLeDiff, q21, c, c2]
      refine draw_cont [4] (.take 0 (.take 2 (.take 3 (.alt 1 (.alt 4 (.alt 5 (.take 6 (.take 7 (.alt 8 (.alt 9 (.done) .stop) .stop))) .stop) .stop) (.alt 4 (.alt 1 (.alt 5 (.take 6 (.take 7 (.alt 8 (.alt 9 (.done) .stop) .stop))) .stop) .stop) (.stop)))))) (fun s h' => ∃ (r : List Ln), IsFunds l r ∧ isView h' V (standF f y kind of' (l ++ balanceL r)).1 ∧ Same h h' [V.ic] ∧ s 6 = .v (.int .i64 (standF f y kind of' (l ++ balanceL r)).2.1) ∧ s 7 = .v (.int .i64 (standF f y kind of' (l ++ balanceL r)).2.2)) (by kernel_rfl) (by kernel_rfl) (by kernel_rfl) (by decide) ?_ ?_
      · clear hq
        have hallok : ∀ r, IsFunds l r → ∀ x ∈ l ++ balanceL r, x.ok := fun r hr x hx => by
          rcases List.mem_append.1 hx with hx | hx
          · exact hlo x hx
          · exact balance_ok hr hlo x hx
        have hsame : ∀ {h1 h2 : Heap}, Same h h1 [] → Same h1 h2 [V.ic] → Same h h2 [V.ic] := fun {h1 h2} a b => ⟨Nat.le_trans a.1 b.1, fun j hj hm => by
          rw [b.2 j (Nat.lt_of_lt_of_le hj a.1) hm, a.2 j hj (by simp)]⟩
        repeat' first
          | with_reducible exact True.intro
          | simp -dsimp only [Vm.G, List.lookup, Nat.reduceAdd, Nat.reduceBEq, Int.reduceBNe, Int.reduceBEq, Nat.reduceLeDiff, q21]
          | (refine call_one (S := allLSpec) rfl _ GaL.rfl ⟨l, by omega, by omega, rfl, fun r h1 hr hs1 => ?_⟩
             have hbl := balance_len r
             have hrl := hr.len
             have hV1 := hV.same hs1 (by simp))
          | refine call_one (S := standSpec) rfl _ GaL.rfl ⟨V, f, ⟨eid, y, kind, elines, of', eby⟩, l ++ balanceL r, heo, hallok r hr, by rw [List.length_append]; omega, rfl, hV1, fun h2 g1 g2 => ?_⟩
          | refine tree_alt ?_ ?_
          | refine ⟨r, hr, g1, hsame hs1 g2, ?_⟩
          | repeat' first | rfl | exact True.intro | refine And.intro ?_ ?_
      · rintro s h' ⟨r, hr, g1, g2, e6, e7⟩
        simp -dsimp only [Vm.G, List.lookup, Nat.reduceAdd, Nat.reduceBEq, Int.reduceBNe, Int.reduceBEq, Nat.reduceLeDiff, q21, e6, e7]
        exact hq r h' hr g1 g2
end Go.Proofs.Lx
/- What all funds have; what is due: trial.*, law27.awake. -/
set_option linter.unusedSimpArgs false
set_option linter.unusedVariables false
namespace Go.Proofs.Lx
open Go.Vm
attribute [local irreducible] awpArr awpBin awpMake awpAppend awpCvX awpStrOf awpBinX awpSlice awpBS awpStore awpAlloc awpCopy awpIndex awpDraw awpIdxX awpFa awpField awpLookup awpUpdate awpDelete awpClear awpRange awpNext awpEntry awpBuild awpClearS awpIdxL awpTree appB awpIdxO eltA treeA
def smCells (s : Sm) : List AV := [.v (.int .i64 s.fund), .v (.int .i64 s.deb), .v (.int .i64 s.cred)]
def smAv (s : Sm) : AV := .agg (smCells s)
def addSmSpec : Vm.Spec := fun args h Q => ∃ (s : Sm) (x : Ln), args = [smAv s, lnAv x] ∧ Q (smAv (addS s x)) h
theorem does_addSm : Does Tryz.prog 77 addSmSpec := by
  refine does_of_awp good_nil Tryz.func77 rfl (by decide +kernel) (by decide +kernel) ?_
  rintro args h Q ⟨s, x, rfl, hq⟩
  refine ⟨by simp [Tryz.f77], ?_⟩
  rw [awpFunc_some (by rfl)]
  rcases s with ⟨fu, de, cr⟩
  rcases x with ⟨xf, xo, xn, xa⟩
  unfold addS at hq
  simp only [smAv, smCells, lnAv, lnCells] at hq ⊢
  by_cases h1 : xa > 0
  · have c1 : decide (xa > 0) = true := decide_eq_true h1
    rw [if_pos h1] at hq
    simp -dsimp only [Vm.G, List.lookup, Nat.reduceAdd, Nat.reduceBEq, Int.reduceBNe, Int.reduceBEq, Nat.reduceLeDiff, q77, c1]
    exact hq
  · have c1 : decide (xa > 0) = false := decide_eq_false h1
    rw [if_neg h1] at hq
    simp -dsimp only [Vm.G, List.lookup, Nat.reduceAdd, Nat.reduceBEq, Int.reduceBNe, Int.reduceBEq, Nat.reduceLeDiff, q77, c1]
    exact hq
/-- The last sum's fund. -/
def lastNe (out : List Sm) (n : Int) : Bool := match out.getLast? with
  | some s => s.fund != n
  | none => true
theorem sum_len (out : List Sm) (x : Ln) : (sumStep out x).length ≤ out.length + 1 := by
  unfold sumStep
  split
  · split
    · rw [List.length_append, List.length_dropLast]; simp only [List.length_cons, List.length_nil]; omega
    · simp
  · simp
theorem sum_new {out : List Sm} {x : Ln} (h : lastNe out x.fund = true) : sumStep out x = out ++ [addS ⟨x.fund, 0, 0⟩ x] := by
  unfold lastNe at h
  unfold sumStep
  cases he : out.getLast? with
  | none =>
    rw [List.getLast?_eq_none_iff] at he
    subst he; rfl
  | some s =>
    rw [he] at h
    have : ¬ s.fund = x.fund := by simpa using h
    simp only
    rw [if_neg this]
theorem sum_old {out : List Sm} {x : Ln} (h : lastNe out x.fund = false) : ∃ o s, out = o ++ [s] ∧ s.fund = x.fund ∧ sumStep out x = o ++ [addS s x] := by
  unfold lastNe at h
  unfold sumStep
  cases he : out.getLast? with
  | none => rw [he] at h; cases h
  | some s =>
    rw [he] at h
    have hs : s.fund = x.fund := by simpa using h
    obtain ⟨o, ho⟩ := List.getLast?_eq_some_iff.1 he
    refine ⟨o, s, ho, hs, ?_⟩
    simp only
    rw [if_pos hs, ho, List.dropLast_concat]
theorem sums_take {l : List Ln} {i : Nat} (hi : i < l.length) : sumsL (l.take (i + 1)) = sumStep (sumsL (l.take i)) l[i] := by
  unfold sumsL
  rw [List.take_succ_eq_append_getElem hi, List.foldl_append]; rfl
theorem sums_len (l : List Ln) : ∀ i, i ≤ l.length → (sumsL (l.take i)).length ≤ i
  | 0, _ => Nat.le_refl _
  | i + 1, h => by
    rw [sums_take (by omega)]
    exact Nat.le_trans (sum_len _ _) (Nat.succ_le_succ (sums_len l i (by omega)))
def sumsSpec : Vm.Spec := fun args h Q => ∃ (V : VId) (f : Fun) (year : Int), args = [.ptr V.iv 0, .v (.int .i64 year)] ∧ isView h V f ∧ f.n ≤ 536870912 ∧
  ∀ l h', ScanIs f (keyOf 66 [year]) l → isView h' V f → Same h h' [] → (sumsL (allB year l)).length ≤ 1073741824 → Q (.own true 91 3 ((sumsL (allB year l)).map smAv)) h'
set_option maxRecDepth 20000 in
set_option maxHeartbeats 4000000 in
theorem does_sums : Does Tryz.prog 50 sumsSpec := by
  refine does_of_awp (good_cons does_balAll (good_cons does_addSm good_nil)) Tryz.func50 rfl (by decide +kernel) (by decide +kernel) ?_
  rintro args h Q ⟨V, f, year, rfl, hV, hn, hq⟩
  refine ⟨by simp [Tryz.f50], ?_⟩
  rw [awpFunc_some (by rfl)]
  simp -dsimp only [Vm.G, List.lookup, Nat.reduceAdd, Nat.reduceBEq, Int.reduceBNe, Int.reduceBEq, Nat.reduceLeDiff, q50]
  refine call_one (S := balAllSpec) rfl _ GaL.rfl ⟨V, f, year, rfl, hV, hn, fun kv h1 hsc hkl hV1 hs1 => ?_⟩
  have hal : (allB year kv).length ≤ kv.length := List.length_filterMap_le ..
  have hq' := hq kv h1 hsc hV1 hs1
  clear hq
  generalize allB year kv = l at hal hq' ⊢
  have hll : l.length ≤ 1073741824 := by omega
  clear hal hkl hsc
  simp -dsimp only [Vm.G, List.lookup, Nat.reduceAdd, Nat.reduceBEq, Int.reduceBNe, Int.reduceBEq, Nat.reduceLeDiff, q50]
  refine awp_loop (fun m s h' => ∃ i : Nat, i + m = l.length ∧ h' = h1 ∧ s = mk [(5, .own true 91 3 ((sumsL (l.take (i))).map smAv)), (12, .own true 53 4 (l.map lnAv)), (13, .v (.int .i64 l.length)), (14, .v (.int .i64 (i : Nat)))])
    l.length _ (le_mk _ ?_) ⟨0, by omega, rfl, rfl⟩ ?_
  · simp only [List.forall_mem_cons, List.not_mem_nil, false_imp_iff, implies_true, and_true]
    try simp -dsimp only [Vm.G, List.lookup, Nat.reduceAdd, Nat.reduceBEq, Int.reduceBNe, Int.reduceBEq, Nat.reduceLeDiff, q50]
    repeat' first | exact Fg.refl _ | exact Fg.nil _ _ _ (by decide) | refine And.intro ?_ ?_
  · rintro m s h' ⟨i, hi, rfl, rfl⟩
    simp -dsimp only [Vm.G, List.lookup, Nat.reduceAdd, Nat.reduceBEq, Int.reduceBNe, Int.reduceBEq, Nat.reduceLeDiff, q50]
    refine cond_intro (fun hcc => ?_) (fun hcc => ?_)
    · have hlt : i < l.length := by have := of_decide_eq_true hcc; omega
      have hw : IntKind.i64.wrap ((i : Int) + 1) = ((i + 1 : Nat) : Int) := by rw [wrap_i64 (by omega) (by omega)]; simp
      have htk := sums_take hlt
      have hsl := sums_len l i (by omega)
      have hgi : (l.map lnAv)[i]? = some (lnAv l[i]) := by simp [hlt]
      generalize l[i] = x at htk hgi
      have hoe : ∃ out, sumsL (l.take i) = out := ⟨_, rfl⟩
      rcases hoe with ⟨out, ho⟩
      rw [ho] at htk hsl ⊢
      simp -dsimp only [Vm.G, List.lookup, Nat.reduceAdd, Nat.reduceBEq, Int.reduceBNe, Int.reduceBEq, Nat.reduceLeDiff, q50]
      refine idxO_intro (by omega) (by simp; omega) ?_
      simp -dsimp only [Vm.G, List.lookup, Nat.reduceAdd, Nat.reduceBEq, Int.reduceBNe, Int.reduceBEq, Nat.reduceLeDiff, q50, Int.toNat_natCast]
      refine eltA_intro hgi ?_
      simp only [lnAv, lnCells]
      simp -dsimp only [Vm.G, List.lookup, Nat.reduceAdd, Nat.reduceBEq, Int.reduceBNe, Int.reduceBEq, Nat.reduceLeDiff, q50, AV.cells, List.drop_zero]
      refine draw_cont [7] (.take 0 (.take 1 (.take 2 (.take 3 (.take 4 (.take 5 (.take 6 (.take 7 (.take 9 (.alt 8 (.alt 10 (.take 11 (.take 12 (.done))) .stop) (.alt 10 (.alt 8 (.take 11 (.take 12 (.done))) .stop) (.stop)))))))))))) (fun s hx => hx = h' ∧ s 32 = .v (.bool (lastNe out x.fund)) ∧ s 5 = .own true 91 3 (out.map smAv) ∧ s 7 = .eptr [.v (.int .i64 x.fund), .v (.int .i64 x.obj), .v (.int .i64 x.node), .v (.int .i64 x.amt)] ∧ s 12 = .own true 53 4 (l.map lnAv) ∧ s 13 = .v (.int .i64 l.length) ∧ s 14 = .v (.int .i64 i)) (by kernel_rfl) (by kernel_rfl) (by kernel_rfl) (by decide) ?_ ?_
      · clear hq'
        by_cases hne : out = []
        · have c1 : ((out.length : Int) == 0) = true := by simp [hne]
          have hv : lastNe out x.fund = true := by rw [hne]; rfl
          simp only [hv]
          repeat' first
            | with_reducible exact True.intro
            | simp -dsimp only [Vm.G, List.lookup, Nat.reduceAdd, Nat.reduceBEq, Int.reduceBNe, Int.reduceBEq, Nat.reduceLeDiff, q50, c1, List.length_map]
            | refine tree_alt ?_ ?_
            | repeat' first | rfl | exact True.intro | refine And.intro ?_ ?_
        · have hoe : ∃ o s, out = o ++ [s] := ⟨_, _, (List.dropLast_concat_getLast hne).symm⟩
          rcases hoe with ⟨o, sl, hos⟩
          have hol : out.length = o.length + 1 := by rw [hos]; simp
          have c1 : ((out.length : Int) == 0) = false := by simp [hol]; omega
          have hw1 : IntKind.i64.wrap ((out.length : Int) - 1) = ((o.length : Nat) : Int) := by rw [wrap_i64 (by omega) (by omega)]; omega
          have hgl : (out.map smAv)[o.length]? = some (smAv sl) := by rw [hos]; simp
          have hv : lastNe out x.fund = (sl.fund != x.fund) := by rw [hos]; unfold lastNe; simp
          simp only [hv]
          repeat' first
            | with_reducible exact True.intro
            | (refine eltA_intro hgl ?_; simp only [smAv, smCells])
            | refine idxO_intro (by omega) (by simp; omega) ?_
            | simp -dsimp only [Vm.G, List.lookup, Nat.reduceAdd, Nat.reduceBEq, Int.reduceBNe, Int.reduceBEq, Nat.reduceLeDiff, q50, c1, hw1, AV.cells, List.drop_zero, Int.toNat_natCast, List.length_map]
            | refine tree_alt ?_ ?_
            | repeat' first | rfl | exact True.intro | refine And.intro ?_ ?_
      · rintro s hx ⟨rfl, e32, e5, e7, e12, e13, e14⟩
        have h0 := Bool.eq_false_or_eq_true (lastNe out x.fund)
        rcases h0 with c | c
        · rw [c] at e32
          have hst := sum_new c
          rw [hst] at htk
          have hLe : ∃ L, L = out ++ [⟨x.fund, 0, 0⟩] := ⟨_, rfl⟩
          rcases hLe with ⟨L, hL⟩
          have hfin : out.map smAv ++ [AV.agg [.v (.int .i64 x.fund), .v (.int .i64 0), .v (.int .i64 0)]] = L.map smAv := by rw [hL]; simp [smAv, smCells]
          have hLl : L.length = out.length + 1 := by rw [hL]; simp
          have hw1 : IntKind.i64.wrap ((L.length : Int) - 1) = ((out.length : Nat) : Int) := by rw [wrap_i64 (by omega) (by omega)]; omega
          have hgl : (L.map smAv)[out.length]? = some (smAv ⟨x.fund, 0, 0⟩) := by rw [hL]; simp
          have hre : (L.map smAv).set out.length (.agg [.v (.int .i64 (addS ⟨x.fund, 0, 0⟩ x).fund), .v (.int .i64 (addS ⟨x.fund, 0, 0⟩ x).deb), .v (.int .i64 (addS ⟨x.fund, 0, 0⟩ x).cred)]) = (out ++ [addS ⟨x.fund, 0, 0⟩ x]).map smAv := by
            rw [hL, List.map_append, List.set_append_right _ _ (by simp), List.map_append]; simp [smAv, smCells]
          simp -dsimp only [Vm.G, List.lookup, Nat.reduceAdd, Nat.reduceBEq, Int.reduceBNe, Int.reduceBEq, Nat.reduceLeDiff, q50, e32, e5, e7, e12, e13, e14]
          refine bs_intro zr91 (by decide) (by decide) rfl rfl (by simp [solid, AV.cells]) ?_
          simp -dsimp only [Vm.G, List.lookup, Nat.reduceAdd, Nat.reduceBEq, Int.reduceBNe, Int.reduceBEq, Nat.reduceLeDiff, q50, e32, e5, e7, e12, e13, e14]
          refine app_sl Tryz.underlying89 (by simp [AV.cells]) (by simp only [List.length_map, List.length_cons, List.length_nil]; omega) ?_
          simp -dsimp only [Vm.G, List.lookup, Nat.reduceAdd, Nat.reduceBEq, Int.reduceBNe, Int.reduceBEq, Nat.reduceLeDiff, q50, e32, e5, e7, e12, e13, e14, hfin]
          refine draw_cont [] (.take 0 (.take 1 (.take 2 (.take 3 (.take 4 (.take 6 (.alt 5 (.alt 7 (.take 8 (.alt 9 (.done) .stop)) .stop) .stop))))))) (fun s h9 => h9 = hx ∧ s 5 = .own true 91 3 ((out ++ [addS ⟨x.fund, 0, 0⟩ x]).map smAv) ∧ s 12 = .own true 53 4 (l.map lnAv) ∧ s 13 = .v (.int .i64 l.length) ∧ s 14 = .v (.int .i64 i)) (by kernel_rfl) (by kernel_rfl) (by kernel_rfl) (by decide) ?_ ?_
          · clear hq'
            repeat' first
              | with_reducible exact True.intro
              | (refine eltA_intro hgl ?_; simp only [smAv, smCells])
              | refine idxO_intro (by omega) (by simp; omega) ?_
              | (refine call_one (S := addSmSpec) rfl _ GaL.rfl ⟨⟨x.fund, 0, 0⟩, x, rfl, ?_⟩; simp only [smAv, smCells])
              | (refine store_elt 91 ((L).map smAv) (by simp -dsimp only [Vm.E, List.lookup, Nat.reduceAdd, Nat.reduceBEq, Int.reduceBNe, Int.reduceBEq, Bool.true_beq, Bool.false_beq, e5, hfin]) (y := smAv ⟨x.fund, 0, 0⟩) hgl rfl rfl (by omega) rfl ?_
                 simp only [smAv, smCells, AV.cells, putCells, reCell, List.take_zero, List.nil_append, List.length_cons, List.length_nil, Nat.zero_add, Nat.reduceAdd, List.drop_succ_cons, List.drop_zero, List.append_nil, List.drop_nil])
              | simp -dsimp only [Vm.G, List.lookup, Nat.reduceAdd, Nat.reduceBEq, Int.reduceBNe, Int.reduceBEq, Nat.reduceLeDiff, q50, e5, e7, e12, e13, e14, hfin, hw1, hre, AV.cells, List.drop_zero, Int.toNat_natCast, List.length_map]
              | refine tree_alt ?_ ?_
              | repeat' first | rfl | exact True.intro | refine And.intro ?_ ?_
          · rintro s h9 ⟨rfl, g5, g12, g13, g14⟩
            simp -dsimp only [Vm.G, List.lookup, Nat.reduceAdd, Nat.reduceBEq, Int.reduceBNe, Int.reduceBEq, Nat.reduceLeDiff, q50, g5, g12, g13, g14]
            refine kept_intro ⟨l.length - (i + 1), by omega, _, le_mk [(5, .own true 91 3 ((sumsL (l.take (i + 1))).map smAv)), (12, .own true 53 4 (l.map lnAv)), (13, .v (.int .i64 l.length)), (14, .v (.int .i64 (i + 1 : Nat)))] ?_, i + 1, by omega, rfl, rfl⟩
            simp only [List.forall_mem_cons, List.not_mem_nil, false_imp_iff, implies_true, and_true, hw, htk, g5, g12, g13, g14]
            try simp -dsimp only [Vm.G, List.lookup, Nat.reduceAdd, Nat.reduceBEq, Int.reduceBNe, Int.reduceBEq, Nat.reduceLeDiff, q50, hw, htk, g5, g12, g13, g14]
            repeat' first | exact Fg.refl _ | exact Fg.nil _ _ _ (by decide) | refine And.intro ?_ ?_
        · rw [c] at e32
          have hst := sum_old c
          rcases hst with ⟨o, sl, hos, hsf, hst⟩
          rw [hst] at htk
          have hol : out.length = o.length + 1 := by rw [hos]; simp
          have hw1 : IntKind.i64.wrap ((out.length : Int) - 1) = ((o.length : Nat) : Int) := by rw [wrap_i64 (by omega) (by omega)]; omega
          have hgl : (out.map smAv)[o.length]? = some (smAv sl) := by rw [hos]; simp
          have hfin : True := trivial
          have hre : (out.map smAv).set o.length (.agg [.v (.int .i64 (addS sl x).fund), .v (.int .i64 (addS sl x).deb), .v (.int .i64 (addS sl x).cred)]) = (o ++ [addS sl x]).map smAv := by
            rw [hos, List.map_append, List.set_append_right _ _ (by simp), List.map_append]; simp [smAv, smCells]
          simp -dsimp only [Vm.G, List.lookup, Nat.reduceAdd, Nat.reduceBEq, Int.reduceBNe, Int.reduceBEq, Nat.reduceLeDiff, q50, e32, e5, e7, e12, e13, e14]
          refine draw_cont [] (.take 0 (.take 1 (.take 2 (.take 3 (.take 4 (.take 6 (.alt 5 (.alt 7 (.take 8 (.alt 9 (.done) .stop)) .stop) .stop))))))) (fun s h9 => h9 = hx ∧ s 5 = .own true 91 3 ((o ++ [addS sl x]).map smAv) ∧ s 12 = .own true 53 4 (l.map lnAv) ∧ s 13 = .v (.int .i64 l.length) ∧ s 14 = .v (.int .i64 i)) (by kernel_rfl) (by kernel_rfl) (by kernel_rfl) (by decide) ?_ ?_
          · clear hq'
            repeat' first
              | with_reducible exact True.intro
              | (refine eltA_intro hgl ?_; simp only [smAv, smCells])
              | refine idxO_intro (by omega) (by simp; omega) ?_
              | (refine call_one (S := addSmSpec) rfl _ GaL.rfl ⟨sl, x, rfl, ?_⟩; simp only [smAv, smCells])
              | (refine store_elt 91 ((out).map smAv) (by simp -dsimp only [Vm.E, List.lookup, Nat.reduceAdd, Nat.reduceBEq, Int.reduceBNe, Int.reduceBEq, Bool.true_beq, Bool.false_beq, e5, hfin]) (y := smAv sl) hgl rfl rfl (by omega) rfl ?_
                 simp only [smAv, smCells, AV.cells, putCells, reCell, List.take_zero, List.nil_append, List.length_cons, List.length_nil, Nat.zero_add, Nat.reduceAdd, List.drop_succ_cons, List.drop_zero, List.append_nil, List.drop_nil])
              | simp -dsimp only [Vm.G, List.lookup, Nat.reduceAdd, Nat.reduceBEq, Int.reduceBNe, Int.reduceBEq, Nat.reduceLeDiff, q50, e5, e7, e12, e13, e14, hfin, hw1, hre, AV.cells, List.drop_zero, Int.toNat_natCast, List.length_map]
              | refine tree_alt ?_ ?_
              | repeat' first | rfl | exact True.intro | refine And.intro ?_ ?_
          · rintro s h9 ⟨rfl, g5, g12, g13, g14⟩
            simp -dsimp only [Vm.G, List.lookup, Nat.reduceAdd, Nat.reduceBEq, Int.reduceBNe, Int.reduceBEq, Nat.reduceLeDiff, q50, g5, g12, g13, g14]
            refine kept_intro ⟨l.length - (i + 1), by omega, _, le_mk [(5, .own true 91 3 ((sumsL (l.take (i + 1))).map smAv)), (12, .own true 53 4 (l.map lnAv)), (13, .v (.int .i64 l.length)), (14, .v (.int .i64 (i + 1 : Nat)))] ?_, i + 1, by omega, rfl, rfl⟩
            simp only [List.forall_mem_cons, List.not_mem_nil, false_imp_iff, implies_true, and_true, hw, htk, g5, g12, g13, g14]
            try simp -dsimp only [Vm.G, List.lookup, Nat.reduceAdd, Nat.reduceBEq, Int.reduceBNe, Int.reduceBEq, Nat.reduceLeDiff, q50, hw, htk, g5, g12, g13, g14]
            repeat' first | exact Fg.refl _ | exact Fg.nil _ _ _ (by decide) | refine And.intro ?_ ?_
    · have hge : ¬ i < l.length := by have := of_decide_eq_false hcc; omega
      have hsl := sums_len l l.length (Nat.le_refl _)
      rw [List.take_of_length_le (Nat.le_refl _)] at hsl
      rw [List.take_of_length_le (by omega)]
      simp -dsimp only [Vm.G, List.lookup, Nat.reduceAdd, Nat.reduceBEq, Int.reduceBNe, Int.reduceBEq, Nat.reduceLeDiff, q50]
      exact hq' (by omega)
def togSpec : Vm.Spec := fun args h Q => ∃ (l : List Ln) (o : Int), l.length ≤ 1073741824 ∧ args = [.sl 4 (l.map lnAv), .v (.int .i64 o)] ∧ Q (.v (.int .i64 (dueL l o))) h
theorem due_take {l : List Ln} {i : Nat} {o : Int} (hi : i < l.length) : dueL (l.take (i + 1)) o = if l[i].obj == o then w64 (dueL (l.take i) o + l[i].amt) else dueL (l.take i) o := by
  unfold dueL
  rw [List.take_succ_eq_append_getElem hi, List.filter_append, List.filter_cons, List.filter_nil]
  split
  · rw [List.map_append]; simp [w64s]
  · simp
set_option maxRecDepth 20000 in
theorem does_tog : Does Tryz.prog 76 togSpec := by
  refine does_of_awp good_nil Tryz.func76 rfl (by decide +kernel) (by decide +kernel) ?_
  rintro args h Q ⟨l, o, hl, rfl, hq⟩
  refine ⟨by simp [Tryz.f76], ?_⟩
  rw [awpFunc_some (by rfl)]
  simp -dsimp only [Vm.G, List.lookup, Nat.reduceAdd, Nat.reduceBEq, Int.reduceBNe, Int.reduceBEq, Nat.reduceLeDiff, q76]
  refine awp_loop (fun m s h' => ∃ i : Nat, i + m = l.length ∧ h' = h ∧ s = mk [(1, .v (.int .i64 o)), (5, .v (.int .i64 (dueL (l.take (i)) o))), (8, .sl 4 (l.map lnAv)), (9, .v (.int .i64 l.length)), (10, .v (.int .i64 (i : Nat)))])
    l.length _ (le_mk _ ?_) ⟨0, by omega, rfl, rfl⟩ ?_
  · simp only [List.forall_mem_cons, List.not_mem_nil, false_imp_iff, implies_true, and_true]
    try simp -dsimp only [Vm.G, List.lookup, Nat.reduceAdd, Nat.reduceBEq, Int.reduceBNe, Int.reduceBEq, Nat.reduceLeDiff, q76]
    repeat' first | exact Fg.refl _ | exact Fg.nil _ _ _ (by decide) | refine And.intro ?_ ?_
  · rintro m s h' ⟨i, hi, rfl, rfl⟩
    simp -dsimp only [Vm.G, List.lookup, Nat.reduceAdd, Nat.reduceBEq, Int.reduceBNe, Int.reduceBEq, Nat.reduceLeDiff, q76]
    refine cond_intro (fun hcc => ?_) (fun hcc => ?_)
    · have hlt : i < l.length := by have := of_decide_eq_true hcc; omega
      have hw : IntKind.i64.wrap ((i : Int) + 1) = ((i + 1 : Nat) : Int) := by rw [wrap_i64 (by omega) (by omega)]; simp
      have htk := due_take (o := o) hlt
      have hxe : ∃ x, l[i] = x := ⟨_, rfl⟩
      rcases hxe with ⟨x, hx⟩
      rw [hx] at htk
      simp -dsimp only [Vm.G, List.lookup, Nat.reduceAdd, Nat.reduceBEq, Int.reduceBNe, Int.reduceBEq, Nat.reduceLeDiff, q76]
      refine idx_map lnAv l i hlt ?_
      simp only [hx, lnAv, lnCells]
      simp -dsimp only [Vm.G, List.lookup, Nat.reduceAdd, Nat.reduceBEq, Int.reduceBNe, Int.reduceBEq, Nat.reduceLeDiff, q76, AV.cells]
      have h0 := Bool.eq_false_or_eq_true (x.obj == o)
      rcases h0 with c | c
      · rw [c, if_pos rfl] at htk
        simp -dsimp only [Vm.G, List.lookup, Nat.reduceAdd, Nat.reduceBEq, Int.reduceBNe, Int.reduceBEq, Nat.reduceLeDiff, q76, c]
        refine kept_intro ⟨l.length - (i + 1), by omega, _, le_mk [(1, .v (.int .i64 o)), (5, .v (.int .i64 (dueL (l.take (i + 1)) o))), (8, .sl 4 (l.map lnAv)), (9, .v (.int .i64 l.length)), (10, .v (.int .i64 (i + 1 : Nat)))] ?_, i + 1, by omega, rfl, rfl⟩
        simp only [List.forall_mem_cons, List.not_mem_nil, false_imp_iff, implies_true, and_true, hw, htk]
        try simp -dsimp only [Vm.G, List.lookup, Nat.reduceAdd, Nat.reduceBEq, Int.reduceBNe, Int.reduceBEq, Nat.reduceLeDiff, q76, hw, htk]
        repeat' first | exact Fg.refl _ | exact Fg.nil _ _ _ (by decide) | refine And.intro ?_ ?_
      · rw [c] at htk
        simp only [Bool.false_eq_true, if_false] at htk
        simp -dsimp only [Vm.G, List.lookup, Nat.reduceAdd, Nat.reduceBEq, Int.reduceBNe, Int.reduceBEq, Nat.reduceLeDiff, q76, c]
        refine kept_intro ⟨l.length - (i + 1), by omega, _, le_mk [(1, .v (.int .i64 o)), (5, .v (.int .i64 (dueL (l.take (i + 1)) o))), (8, .sl 4 (l.map lnAv)), (9, .v (.int .i64 l.length)), (10, .v (.int .i64 (i + 1 : Nat)))] ?_, i + 1, by omega, rfl, rfl⟩
        simp only [List.forall_mem_cons, List.not_mem_nil, false_imp_iff, implies_true, and_true, hw, htk]
        try simp -dsimp only [Vm.G, List.lookup, Nat.reduceAdd, Nat.reduceBEq, Int.reduceBNe, Int.reduceBEq, Nat.reduceLeDiff, q76, hw, htk]
        repeat' first | exact Fg.refl _ | exact Fg.nil _ _ _ (by decide) | refine And.intro ?_ ?_
    · have hge : ¬ i < l.length := by have := of_decide_eq_false hcc; omega
      rw [List.take_of_length_le (by omega)]
      simp -dsimp only [Vm.G, List.lookup, Nat.reduceAdd, Nat.reduceBEq, Int.reduceBNe, Int.reduceBEq, Nat.reduceLeDiff, q76]
      exact hq
def dueSpec : Vm.Spec := fun args h Q => ∃ (V : VId) (f : Fun) (year : Int), args = [.ptr V.iv 0, .v (.int .i64 year)] ∧ isView h V f ∧ f.n ≤ 536870912 ∧
  ∀ l h', ScanIs f (keyOf 66 [year]) l → isView h' V f → Same h h' [] → Q (.tup [.v (.int .i64 (dueL (allB year l) 1900)), .v (.int .i64 (w64 (0 - dueL (allB year l) 2900)))]) h'
theorem does_due : Does Tryz.prog 48 dueSpec := by
  refine does_of_awp (good_cons does_balAll (good_cons does_tog good_nil)) Tryz.func48 rfl (by decide +kernel) (by decide +kernel) ?_
  rintro args h Q ⟨V, f, year, rfl, hV, hn, hq⟩
  refine ⟨by simp [Tryz.f48], ?_⟩
  rw [awpFunc_some (by rfl)]
  simp -dsimp only [Vm.G, List.lookup, Nat.reduceAdd, Nat.reduceBEq, Int.reduceBNe, Int.reduceBEq, Nat.reduceLeDiff, q48]
  refine call_one (S := balAllSpec) rfl _ GaL.rfl ⟨V, f, year, rfl, hV, hn, fun kv h1 hsc hkl hV1 hs1 => ?_⟩
  have hal : (allB year kv).length ≤ kv.length := List.length_filterMap_le ..
  have hq' := hq kv h1 hsc hV1 hs1
  clear hq
  generalize allB year kv = l at hal hq' ⊢
  simp -dsimp only [Vm.G, List.lookup, Nat.reduceAdd, Nat.reduceBEq, Int.reduceBNe, Int.reduceBEq, Nat.reduceLeDiff, q48]
  refine call_one (S := togSpec) rfl _ GaL.rfl ⟨l, 1900, by omega, rfl, ?_⟩
  simp -dsimp only [Vm.G, List.lookup, Nat.reduceAdd, Nat.reduceBEq, Int.reduceBNe, Int.reduceBEq, Nat.reduceLeDiff, q48]
  refine call_one (S := togSpec) rfl _ GaL.rfl ⟨l, 2900, by omega, rfl, ?_⟩
  simp -dsimp only [Vm.G, List.lookup, Nat.reduceAdd, Nat.reduceBEq, Int.reduceBNe, Int.reduceBEq, Nat.reduceLeDiff, q48]
  exact hq'
def trightSpec : Vm.Spec := fun args h Q => ∃ (V : VId) (f : Fun) (year : Int), args = [.ptr V.iv 0, .v (.int .i64 year)] ∧ isView h V f ∧ f.n ≤ 536870912 ∧
  ∀ l h', ScanIs f (keyOf 66 [year]) l → isView h' V f → Same h h' [] → Q (.v (.bool (rightT (allB year l)))) h'
set_option maxRecDepth 20000 in
set_option maxHeartbeats 1000000 in
theorem does_tright : Does Tryz.prog 22 trightSpec := by
  refine does_of_awp (good_cons does_sums (good_cons does_due good_nil)) Tryz.func22 rfl (by decide +kernel) (by decide +kernel) ?_
  rintro args h Q ⟨V, f, year, rfl, hV, hn, hq⟩
  refine ⟨by simp [Tryz.f22], ?_⟩
  rw [awpFunc_some (by rfl)]
  simp -dsimp only [Vm.G, List.lookup, Nat.reduceAdd, Nat.reduceBEq, Int.reduceBNe, Int.reduceBEq, Nat.reduceLeDiff, q22]
  refine call_one (S := sumsSpec) rfl _ GaL.rfl ⟨V, f, year, rfl, hV, hn, fun kv h1 hsc hV1 hs1 hsl => ?_⟩
  have hqa := hq kv
  unfold rightT at hqa
  have hse : ∃ sm, sumsL (allB year kv) = sm := ⟨_, rfl⟩
  rcases hse with ⟨sm, hsm⟩
  rw [hsm] at hqa hsl ⊢
  clear hq
  simp -dsimp only [Vm.G, List.lookup, Nat.reduceAdd, Nat.reduceBEq, Int.reduceBNe, Int.reduceBEq, Nat.reduceLeDiff, q22]
  refine awp_loop (fun m s h' => ∃ i : Nat, i + m = sm.length ∧ h' = h1 ∧ (∀ t ∈ sm.take i, (t.deb == t.cred) = true) ∧ s = mk [(0, .ptr V.iv 0), (1, .v (.int .i64 year)), (11, .own true 91 3 (sm.map smAv)), (12, .v (.int .i64 sm.length)), (13, .v (.int .i64 (i : Nat)))])
    sm.length _ (le_mk _ ?_) ⟨0, by omega, rfl, by simp, rfl⟩ ?_
  · simp only [List.forall_mem_cons, List.not_mem_nil, false_imp_iff, implies_true, and_true]
    try simp -dsimp only [Vm.G, List.lookup, Nat.reduceAdd, Nat.reduceBEq, Int.reduceBNe, Int.reduceBEq, Nat.reduceLeDiff, q22]
    repeat' first | exact Fg.refl _ | exact Fg.nil _ _ _ (by decide) | refine And.intro ?_ ?_
  · rintro m s h' ⟨i, hi, rfl, hall, rfl⟩
    simp -dsimp only [Vm.G, List.lookup, Nat.reduceAdd, Nat.reduceBEq, Int.reduceBNe, Int.reduceBEq, Nat.reduceLeDiff, q22]
    refine cond_intro (fun hcc => ?_) (fun hcc => ?_)
    · have hlt : i < sm.length := by have := of_decide_eq_true hcc; omega
      have hw : IntKind.i64.wrap ((i : Int) + 1) = ((i + 1 : Nat) : Int) := by rw [wrap_i64 (by omega) (by omega)]; simp
      have hgi : (sm.map smAv)[i]? = some (smAv sm[i]) := by simp [hlt]
      have hmem := List.getElem_mem hlt
      have htk : sm.take (i + 1) = sm.take i ++ [sm[i]] := List.take_succ_eq_append_getElem hlt
      generalize sm[i] = x at hgi hmem htk
      simp -dsimp only [Vm.G, List.lookup, Nat.reduceAdd, Nat.reduceBEq, Int.reduceBNe, Int.reduceBEq, Nat.reduceLeDiff, q22]
      refine idxO_intro (by omega) (by simp; omega) ?_
      simp -dsimp only [Vm.G, List.lookup, Nat.reduceAdd, Nat.reduceBEq, Int.reduceBNe, Int.reduceBEq, Nat.reduceLeDiff, q22, Int.toNat_natCast]
      refine eltA_intro hgi ?_
      simp only [smAv, smCells]
      simp -dsimp only [Vm.G, List.lookup, Nat.reduceAdd, Nat.reduceBEq, Int.reduceBNe, Int.reduceBEq, Nat.reduceLeDiff, q22, AV.cells, List.drop_zero]
      have h0 := Bool.eq_false_or_eq_true (x.deb == x.cred)
      rcases h0 with c | c
      · have c2 : (x.deb != x.cred) = false := by simp only [bne, c, Bool.not_true]
        simp -dsimp only [Vm.G, List.lookup, Nat.reduceAdd, Nat.reduceBEq, Int.reduceBNe, Int.reduceBEq, Nat.reduceLeDiff, q22, c2]
        refine kept_intro ⟨sm.length - (i + 1), by omega, _, le_mk [(0, .ptr V.iv 0), (1, .v (.int .i64 year)), (11, .own true 91 3 (sm.map smAv)), (12, .v (.int .i64 sm.length)), (13, .v (.int .i64 (i + 1 : Nat)))] ?_, i + 1, by omega, rfl, fun t ht => ?_, rfl⟩
        · simp only [List.forall_mem_cons, List.not_mem_nil, false_imp_iff, implies_true, and_true, hw]
          try simp -dsimp only [Vm.G, List.lookup, Nat.reduceAdd, Nat.reduceBEq, Int.reduceBNe, Int.reduceBEq, Nat.reduceLeDiff, q22, hw]
          repeat' first | exact Fg.refl _ | exact Fg.nil _ _ _ (by decide) | refine And.intro ?_ ?_
        · rw [htk] at ht
          rcases List.mem_append.1 ht with ht | ht
          · exact hall t ht
          · rw [List.mem_singleton] at ht; subst ht; exact c
      · have c2 : (x.deb != x.cred) = true := by simp only [bne, c, Bool.not_false]
        have hf : sm.all (fun s => s.deb == s.cred) = false := by
          rw [List.all_eq_false]
          exact ⟨x, hmem, by rw [c]; decide⟩
        rw [hf, Bool.false_and] at hqa
        simp -dsimp only [Vm.G, List.lookup, Nat.reduceAdd, Nat.reduceBEq, Int.reduceBNe, Int.reduceBEq, Nat.reduceLeDiff, q22, c2]
        exact hqa h' hsc hV1 hs1
    · have hge : ¬ i < sm.length := by have := of_decide_eq_false hcc; omega
      rw [List.take_of_length_le (by omega)] at hall
      have ht : sm.all (fun s => s.deb == s.cred) = true := List.all_eq_true.2 hall
      rw [ht, Bool.true_and] at hqa
      clear hcc
      simp -dsimp only [Vm.G, List.lookup, Nat.reduceAdd, Nat.reduceBEq, Int.reduceBNe, Int.reduceBEq, Nat.reduceLeDiff, q22]
      refine call_one (S := dueSpec) rfl _ GaL.rfl ⟨V, f, year, rfl, hV1, hn, fun kv2 h2 hsc2 hV2 hs2 => ?_⟩
      rw [hsc2.same hsc]
      simp -dsimp only [Vm.G, List.lookup, Nat.reduceAdd, Nat.reduceBEq, Int.reduceBNe, Int.reduceBEq, Nat.reduceLeDiff, q22]
      exact hqa h2 hsc hV2 (hs1.trans hs2)
theorem smEq (x y : Sm) : ((x.fund == y.fund) && ((x.deb == y.deb) && (x.cred == y.cred))) = true ↔ x = y := by
  obtain ⟨a, b, c⟩ := x
  obtain ⟨a', b', c'⟩ := y
  simp
def eqSpecSm : Vm.Spec := fun args h Q => ∃ l l' : List Sm, l.length ≤ 9223372036854775807 ∧ args = [.sl 3 (l.map smAv), .sl 3 (l'.map smAv)] ∧ ∀ b : Bool, (b = true ↔ l = l') → Q (.v (.bool b)) h
set_option maxHeartbeats 1000000 in
theorem does_eqSm : Does Tryz.prog 49 eqSpecSm := by
  refine does_of_awp good_nil Tryz.func49 rfl (by decide +kernel) (by decide +kernel) ?_
  rintro args h Q ⟨l, l', hl, rfl, hq⟩
  refine ⟨by simp [Tryz.f49], ?_⟩
  rw [awpFunc_some (by rfl)]
  simp -dsimp only [Vm.G, List.lookup, Nat.reduceAdd, Nat.reduceBEq, Int.reduceBNe, Int.reduceBEq, Nat.reduceLeDiff, q49]
  by_cases hlen : l.length = l'.length
  · have c1 : ((l.length : Int) != l'.length) = false := by simp [hlen]
    simp -dsimp only [Vm.G, List.lookup, Nat.reduceAdd, Nat.reduceBEq, Int.reduceBNe, Int.reduceBEq, Nat.reduceLeDiff, q49, c1]
    refine awp_loop (fun m s h' => ∃ i : Nat, i + m = l.length ∧ h' = h ∧ (∀ j (hj : j < l.length), j < i → l[j] = l'[j]'(by omega)) ∧ s = mk [(0, .sl 3 (l.map smAv)), (1, .sl 3 (l'.map smAv)), (12, .v (.int .i64 l.length)), (13, .v (.int .i64 i))])
      l.length _ (le_mk _ ?_) ⟨0, by omega, rfl, fun j _ hj => by omega, rfl⟩ ?_
    · simp only [List.forall_mem_cons, List.not_mem_nil, false_imp_iff, implies_true, and_true]
      try simp -dsimp only [Vm.G, List.lookup, Nat.reduceAdd, Nat.reduceBEq, Int.reduceBNe, Int.reduceBEq, Nat.reduceLeDiff, q49]
      repeat' first | exact Fg.refl _ | exact Fg.nil _ _ _ (by decide) | refine And.intro ?_ ?_
    · rintro m s h' ⟨i, hi, rfl, hb, rfl⟩
      simp -dsimp only [Vm.G, List.lookup, Nat.reduceAdd, Nat.reduceBEq, Int.reduceBNe, Int.reduceBEq, Nat.reduceLeDiff, q49]
      refine cond_intro (fun hcc => ?_) (fun hcc => ?_)
      · have hlt : i < l.length := by have := of_decide_eq_true hcc; omega
        have hlt' : i < l'.length := by omega
        obtain ⟨x, hx⟩ : ∃ x, l[i] = x := ⟨_, rfl⟩
        obtain ⟨y, hy⟩ : ∃ y, l'[i] = y := ⟨_, rfl⟩
        have hw : IntKind.i64.wrap ((i : Int) + 1) = ((i + 1 : Nat) : Int) := by rw [wrap_i64 (by omega) (by omega)]; simp
        simp -dsimp only [Vm.G, List.lookup, Nat.reduceAdd, Nat.reduceBEq, Int.reduceBNe, Int.reduceBEq, Nat.reduceLeDiff, q49]
        refine draw_cont [] (.take 0 (.take 1 (.take 2 (.take 3 (.take 4 (.take 5 (.take 6 (.take 7 (.take 8 (.done)))))))))) (fun s hx => hx = h' ∧ (∃ b : Bool, (b = true ↔ x = y) ∧ s 24 = .v (.bool (!b))) ∧ s 0 = .sl 3 (l.map smAv) ∧ s 1 = .sl 3 (l'.map smAv) ∧ s 12 = .v (.int .i64 l.length) ∧ s 13 = .v (.int .i64 i)) (by kernel_rfl) (by kernel_rfl) (by kernel_rfl) (by decide) ?_ ?_
        · simp -dsimp only [Vm.G, List.lookup, Nat.reduceAdd, Nat.reduceBEq, Int.reduceBNe, Int.reduceBEq, Nat.reduceLeDiff, q49]
          refine idx_map smAv l i hlt ?_
          simp only [hx, smAv, smCells]
          simp -dsimp only [Vm.G, List.lookup, Nat.reduceAdd, Nat.reduceBEq, Int.reduceBNe, Int.reduceBEq, Nat.reduceLeDiff, q49, AV.cells]
          refine idx_map smAv l' i hlt' ?_
          simp only [hy, smAv, smCells]
          simp -dsimp only [Vm.G, List.lookup, Nat.reduceAdd, Nat.reduceBEq, Int.reduceBNe, Int.reduceBEq, Nat.reduceLeDiff, q49, AV.cells]
          refine eq_agg fd91 rfl ?_
          simp -dsimp only [Vm.G, List.lookup, Nat.reduceAdd, Nat.reduceBEq, Int.reduceBNe, Int.reduceBEq, Nat.reduceLeDiff, q49]
          refine ⟨⟨_, smEq x y, rfl⟩, ?_⟩
          repeat' first | rfl | exact True.intro | refine And.intro ?_ ?_
        · rintro s hx2 ⟨rfl, ⟨b, hbe, e24⟩, e0, e1, e12, e13⟩
          cases b
          · have hne : ¬ l = l' := fun e => by
              have : x = y := by subst e; rw [← hx, ← hy]
              have := hbe.2 this
              cases this
            simp -dsimp only [Vm.G, List.lookup, Nat.reduceAdd, Nat.reduceBEq, Int.reduceBNe, Int.reduceBEq, Nat.reduceLeDiff, q49, e24, e0, e1, e12, e13]
            exact hq false ⟨fun h => (by cases h), fun h => (hne h).elim⟩
          · have he := hbe.1 rfl
            simp -dsimp only [Vm.G, List.lookup, Nat.reduceAdd, Nat.reduceBEq, Int.reduceBNe, Int.reduceBEq, Nat.reduceLeDiff, q49, e24, e0, e1, e12, e13]
            refine kept_intro ⟨l.length - (i + 1), by omega, _, le_mk [(0, .sl 3 (l.map smAv)), (1, .sl 3 (l'.map smAv)), (12, .v (.int .i64 l.length)), (13, .v (.int .i64 (i + 1 : Nat)))] ?_, i + 1, by omega, rfl, fun j hj hj2 => ?_, rfl⟩
            · simp only [List.forall_mem_cons, List.not_mem_nil, false_imp_iff, implies_true, and_true, hw, e24, e0, e1, e12, e13]
              try simp -dsimp only [Vm.G, List.lookup, Nat.reduceAdd, Nat.reduceBEq, Int.reduceBNe, Int.reduceBEq, Nat.reduceLeDiff, q49, hw, e24, e0, e1, e12, e13]
              repeat' first | exact Fg.refl _ | exact Fg.nil _ _ _ (by decide) | refine And.intro ?_ ?_
            · by_cases hji : j = i
              · subst hji; rw [hx, hy]; exact he
              · exact hb j hj (by omega)
      · have hge : ¬ i < l.length := by have := of_decide_eq_false hcc; omega
        have he : l = l' := List.ext_getElem hlen fun j h1 h2 => hb j h1 (by omega)
        simp -dsimp only [Vm.G, List.lookup, Nat.reduceAdd, Nat.reduceBEq, Int.reduceBNe, Int.reduceBEq, Nat.reduceLeDiff, q49]
        exact hq true ⟨fun _ => he, fun _ => rfl⟩
  · have c1 : ((l.length : Int) != l'.length) = true := by simp; omega
    simp -dsimp only [Vm.G, List.lookup, Nat.reduceAdd, Nat.reduceBEq, Int.reduceBNe, Int.reduceBEq, Nat.reduceLeDiff, q49, c1]
    exact hq false ⟨fun h => (by cases h), fun h => (hlen (by rw [h])).elim⟩
theorem en0_ok : (⟨0, 2020, 0, 0, 0, 0⟩ : En).ok := by unfold En.ok I64; decide
theorem tA_ok : tA.ok := by unfold Ln.ok I64; decide
theorem tB_ok : tB.ok := by unfold Ln.ok I64; decide
theorem t_open : (openOf noF 2020).2 = 0 := by decide +kernel
set_option maxRecDepth 20000 in
set_option maxHeartbeats 2000000 in
theorem does_law27awake : Does Tryz.prog 18 yesSpec := by
  refine does_of_awp (good_cons does_vnewA (good_cons does_yOpen (good_cons does_entry (good_cons does_due (good_cons does_sums (good_cons does_eqSm (good_cons does_tright good_nil))))))) Tryz.func18 rfl (by decide +kernel) (by decide +kernel) ?_
  rintro args h Q ⟨rfl, hq⟩
  refine ⟨by simp [Tryz.f18], ?_⟩
  rw [awpFunc_some (by rfl)]
  simp -dsimp only [Vm.G, List.lookup, Nat.reduceAdd, Nat.reduceBEq, Int.reduceBNe, Int.reduceBEq, Nat.reduceLeDiff, q18]
  refine call_one (S := vnewASpec) rfl _ GaL.rfl ⟨rfl, fun V h1 hV => ?_⟩
  simp -dsimp only [Vm.G, List.lookup, Nat.reduceAdd, Nat.reduceBEq, Int.reduceBNe, Int.reduceBEq, Nat.reduceLeDiff, q18]
  refine nil_pointer Tryz.underlying23 ?_
  simp -dsimp only [Vm.G, List.lookup, Nat.reduceAdd, Nat.reduceBEq, Int.reduceBNe, Int.reduceBEq, Nat.reduceLeDiff, q18]
  refine call_one (S := yOpenSpec) rfl _ GaL.rfl ⟨V, noF, 2020, rfl, hV, fun h2 hV2 hs2 => ?_⟩
  simp -dsimp only [Vm.G, List.lookup, Nat.reduceAdd, Nat.reduceBEq, Int.reduceBNe, Int.reduceBEq, Nat.reduceLeDiff, q18, t_open, bne_self_eq_false]
  refine bs_intro zr53 (by decide) (by decide) rfl rfl (by simp [solid, AV.cells]) ?_
  simp -dsimp only [Vm.G, List.lookup, Nat.reduceAdd, Nat.reduceBEq, Int.reduceBNe, Int.reduceBEq, Nat.reduceLeDiff, q18]
  refine call_one (S := entrySpec) rfl _ GaL.rfl ⟨V, tF0, ⟨0, 2020, 0, 0, 0, 0⟩, [tA, tB], en0_ok, fun x hx => ?_, by decide, rfl, hV2, fun hc => absurd hc (by decide), fun _ r h3 hr hV3 hs3 => ?_⟩
  · simp only [List.mem_cons, List.not_mem_nil, or_false] at hx
    rcases hx with rfl | rfl
    · exact tA_ok
    · exact tB_ok
  · have hre := funds_same hr t_funds
    have hal : [tA, tB] ++ balanceL r = [tA, tB, tC, tD] := by rw [hre, t_bal]; rfl
    simp only [hal] at hV3 ⊢
    have hsc0 := t_scan
    have hn0 := stand_n tF0 2020 0 0 [tA, tB, tC, tD]
    have hok := t_ok
    have hfn : tF0.n ≤ 10 := by decide +kernel
    generalize standF tF0 2020 0 0 [tA, tB, tC, tD] = q at hV3 hsc0 hn0 hok ⊢
    have hqn : q.1.n ≤ 536870912 := by simp only [List.length_cons, List.length_nil] at hn0; omega
    simp -dsimp only [Vm.G, List.lookup, Nat.reduceAdd, Nat.reduceBEq, Int.reduceBNe, Int.reduceBEq, Nat.reduceLeDiff, q18, hok]
    refine call_one (S := dueSpec) rfl _ GaL.rfl ⟨V, q.1, 2020, rfl, hV3, hqn, fun l h4 hsc hV4 hs4 => ?_⟩
    have hl := hsc.same hsc0
    simp only [hl, t_all, t_from, t_to]
    simp -dsimp only [Vm.G, List.lookup, Nat.reduceAdd, Nat.reduceBEq, Int.reduceBNe, Int.reduceBEq, Nat.reduceLeDiff, q18, beq_self_eq_true]
    refine call_one (S := sumsSpec) rfl _ GaL.rfl ⟨V, q.1, 2020, rfl, hV4, hqn, fun l2 h5 hsc2 hV5 hs5 hsl => ?_⟩
    have hl2 := hsc2.same hsc0
    simp only [hl2, t_all, t_sums]
    simp -dsimp only [Vm.G, List.lookup, Nat.reduceAdd, Nat.reduceBEq, Int.reduceBNe, Int.reduceBEq, Nat.reduceLeDiff, q18]
    refine bs_intro zr91 (by decide) (by decide) rfl rfl (by simp [solid, AV.cells]) ?_
    simp -dsimp only [Vm.G, List.lookup, Nat.reduceAdd, Nat.reduceBEq, Int.reduceBNe, Int.reduceBEq, Nat.reduceLeDiff, q18]
    refine call_one (S := eqSpecSm) rfl _ GaL.rfl ⟨[⟨100, 5, 5⟩, ⟨200, 5, 5⟩], [⟨100, 5, 5⟩, ⟨200, 5, 5⟩], by simp, rfl, fun b hb => ?_⟩
    have hb1 : b = true := hb.2 rfl
    subst hb1
    simp -dsimp only [Vm.G, List.lookup, Nat.reduceAdd, Nat.reduceBEq, Int.reduceBNe, Int.reduceBEq, Nat.reduceLeDiff, q18, beq_self_eq_true]
    refine call_one (S := trightSpec) rfl _ GaL.rfl ⟨V, q.1, 2020, rfl, hV5, hqn, fun l3 h6 hsc3 hV6 hs6 => ?_⟩
    have hl3 := hsc3.same hsc0
    simp only [hl3, t_all, t_right]
    simp -dsimp only [Vm.G, List.lookup, Nat.reduceAdd, Nat.reduceBEq, Int.reduceBNe, Int.reduceBEq, Nat.reduceLeDiff, q18]
    exact hq _
end Go.Proofs.Lx
/- The law TrialRight. -/
set_option linter.unusedSimpArgs false
set_option linter.unusedVariables false
namespace Go.Proofs.Lx
open Go.Vm
attribute [local irreducible] awpArr awpBin awpMake awpAppend awpCvX awpStrOf awpBinX awpSlice awpBS awpStore awpAlloc awpCopy awpIndex awpDraw awpIdxX awpFa awpField awpLookup awpUpdate awpDelete awpClear awpRange awpNext awpEntry awpBuild awpClearS awpIdxL awpTree appB awpIdxO eltA treeA
def smallL (x : Ln) : Bool := decide (x.amt ≤ 9007199254740992) && decide (x.amt ≥ -9007199254740992) && (x.obj != 1900) && (x.obj != 2900)
def trlSpec : Vm.Spec := fun args h Q => ∃ l : List (List Ln), l.length ≤ 9223372036854775807 ∧ (∀ k ∈ l, k.length ≤ 9223372036854775807 ∧ ∀ x ∈ k, x.ok) ∧ args = [.sl 1 (l.map lnsAv)] ∧ ∀ h', Q (.v (.bool true)) h'
set_option maxRecDepth 20000 in
set_option maxHeartbeats 8000000 in
theorem does_trl : Does Tryz.prog 5 trlSpec := by
  refine does_of_awp (good_cons does_law27awake (good_cons does_vnewW (good_cons does_yOpen (good_cons does_cloneLn (good_cons does_commit (good_cons does_entry (good_cons does_abort (good_cons does_tright good_nil)))))))) Tryz.func5 rfl (by decide +kernel) (by decide +kernel) ?_
  rintro args h Q ⟨l, hl, hlk, rfl, hq⟩
  refine ⟨by simp [Tryz.f5], ?_⟩
  rw [awpFunc_some (by rfl)]
  simp -dsimp only [Vm.G, List.lookup, Nat.reduceAdd, Nat.reduceBEq, Int.reduceBNe, Int.reduceBEq, Nat.reduceLeDiff, q5]
  have h0 := Bool.eq_false_or_eq_true (decide ((l.length : Int) > 20))
  rcases h0 with c | c
  · simp -dsimp only [Vm.G, List.lookup, Nat.reduceAdd, Nat.reduceBEq, Int.reduceBNe, Int.reduceBEq, Nat.reduceLeDiff, q5, c]
    refine call_one (S := yesSpec) rfl _ GaL.rfl ⟨rfl, fun hz => ?_⟩
    simp -dsimp only [Vm.G, List.lookup, Nat.reduceAdd, Nat.reduceBEq, Int.reduceBNe, Int.reduceBEq, Nat.reduceLeDiff, q5]
    exact hq _
  · have d0 := of_decide_eq_false c
    simp -dsimp only [Vm.G, List.lookup, Nat.reduceAdd, Nat.reduceBEq, Int.reduceBNe, Int.reduceBEq, Nat.reduceLeDiff, q5, c]
    refine call_one (S := vnewWSpec) rfl _ GaL.rfl ⟨rfl, fun V h1 hV1 hm1 => ?_⟩
    simp -dsimp only [Vm.G, List.lookup, Nat.reduceAdd, Nat.reduceBEq, Int.reduceBNe, Int.reduceBEq, Nat.reduceLeDiff, q5]
    refine call_one (S := yOpenSpec) rfl _ GaL.rfl ⟨V, noF, 2020, rfl, hV1, fun h2 hV2 hs2 => ?_⟩
    have hm2 := hm1.same hs2 (by have := hV1.ne.2.2; simp [Ne.symm this])
    have hfn : tF0.n ≤ 10 := by decide +kernel
    have hV2 : isView h2 V tF0 := hV2
    have hS0 := t_stands0
    have heok := en0_ok
    have hn0 : noF.n = 0 := rfl
    simp -dsimp only [Vm.G, List.lookup, Nat.reduceAdd, Nat.reduceBEq, Int.reduceBNe, Int.reduceBEq, Nat.reduceLeDiff, q5, t_open, bne_self_eq_false]
    refine awp_loop (fun m s h' => ∃ (i : Nat) (f g : Fun) (T : List Ln), i + m = l.length ∧ isView h' V f ∧ memV h' V g ∧ Stands 2020 T f ∧ EvenT T ∧ f.n ≤ 10 + 100 * i ∧ g.n ≤ 10 + 100 * i ∧ s = mk [(3, .ptr V.iv 0), (19, .sl 1 (l.map lnsAv)), (20, .v (.int .i64 l.length)), (21, .v (.int .i64 (i : Nat)))])
      l.length _ (le_mk _ ?_) ⟨0, tF0, noF, [], by omega, hV2, hm2, hS0, even_nil, by omega, by omega, rfl⟩ ?_
    · simp only [List.forall_mem_cons, List.not_mem_nil, false_imp_iff, implies_true, and_true]
      try simp -dsimp only [Vm.G, List.lookup, Nat.reduceAdd, Nat.reduceBEq, Int.reduceBNe, Int.reduceBEq, Nat.reduceLeDiff, q5]
      repeat' first | exact Fg.refl _ | exact Fg.nil _ _ _ (by decide) | refine And.intro ?_ ?_
    · clear hV2 hm2 hS0 hfn hV1 hm1 hs2 hn0
      rintro m s h' ⟨i, f, g, T, hi, hV, hm, hS, hE, hfn, hgn, rfl⟩
      simp -dsimp only [Vm.G, List.lookup, Nat.reduceAdd, Nat.reduceBEq, Int.reduceBNe, Int.reduceBEq, Nat.reduceLeDiff, q5]
      refine cond_intro (fun hcc => ?_) (fun hcc => ?_)
      · have hlt : i < l.length := by have := of_decide_eq_true hcc; omega
        have hw : IntKind.i64.wrap ((i : Int) + 1) = ((i + 1 : Nat) : Int) := by rw [wrap_i64 (by omega) (by omega)]; simp
        have hkk := hlk l[i] (List.getElem_mem hlt)
        have hxe : ∃ k, l[i] = k := ⟨_, rfl⟩
        rcases hxe with ⟨k, hkx⟩
        rw [hkx] at hkk
        rcases hkk with ⟨hkl, hko⟩
        clear hcc
        simp -dsimp only [Vm.G, List.lookup, Nat.reduceAdd, Nat.reduceBEq, Int.reduceBNe, Int.reduceBEq, Nat.reduceLeDiff, q5]
        refine idx_map lnsAv l i hlt ?_
        simp only [hkx, lnsAv]
        simp -dsimp only [Vm.G, List.lookup, Nat.reduceAdd, Nat.reduceBEq, Int.reduceBNe, Int.reduceBEq, Nat.reduceLeDiff, q5, AV.cells]
        refine awp_loop (fun m s h2 => ∃ (j : Nat) (n : Int) (b : Bool), j + m = k.length ∧ h2 = h' ∧ (b = true → k.length ≤ 20 ∧ (∀ x ∈ k.take j, smallL x = true) ∧ n = tot (fun x => x.amt) (k.take j)) ∧ s = mk [(3, .ptr V.iv 0), (5, .sl 4 (k.map lnAv)), (6, .v (.int .i64 n)), (7, .v (.bool b)), (8, .v (.int .i64 (j : Nat))), (19, .sl 1 (l.map lnsAv)), (20, .v (.int .i64 l.length)), (21, .v (.int .i64 i))])
          k.length _ (le_mk _ ?_) ⟨0, 0, decide ((k.length : Int) ≤ 20), by omega, rfl, fun hb => ⟨by have := of_decide_eq_true hb; omega, by simp, rfl⟩, rfl⟩ ?_
        · simp only [List.forall_mem_cons, List.not_mem_nil, false_imp_iff, implies_true, and_true, lnsAv]
          try simp -dsimp only [Vm.G, List.lookup, Nat.reduceAdd, Nat.reduceBEq, Int.reduceBNe, Int.reduceBEq, Nat.reduceLeDiff, q5, lnsAv]
          repeat' first | exact Fg.refl _ | exact Fg.nil _ _ _ (by decide) | refine And.intro ?_ ?_
        · rintro m2 s h2 ⟨j, n, b, hj, rfl, hb, rfl⟩
          cases b
          · simp -dsimp only [Vm.G, List.lookup, Nat.reduceAdd, Nat.reduceBEq, Int.reduceBNe, Int.reduceBEq, Nat.reduceLeDiff, q5, Bool.not_false]
            refine kept_intro ⟨l.length - (i + 1), by omega, _, le_mk [(3, .ptr V.iv 0), (19, .sl 1 (l.map lnsAv)), (20, .v (.int .i64 l.length)), (21, .v (.int .i64 (i + 1 : Nat)))] ?_, i + 1, f, g, T, by omega, hV, hm, hS, hE, by omega, by omega, rfl⟩
            simp only [List.forall_mem_cons, List.not_mem_nil, false_imp_iff, implies_true, and_true, hw, lnsAv]
            try simp -dsimp only [Vm.G, List.lookup, Nat.reduceAdd, Nat.reduceBEq, Int.reduceBNe, Int.reduceBEq, Nat.reduceLeDiff, q5, hw, lnsAv]
            repeat' first | exact Fg.refl _ | exact Fg.nil _ _ _ (by decide) | refine And.intro ?_ ?_
          · have hb := hb rfl
            rcases hb with ⟨hk20, hsm, hn⟩
            have h0 := Bool.eq_false_or_eq_true (decide ((j : Int) < k.length))
            rcases h0 with c1 | c1
            · have hjl : j < k.length := by have := of_decide_eq_true c1; omega
              have hwj : IntKind.i64.wrap ((j : Int) + 1) = ((j + 1 : Nat) : Int) := by rw [wrap_i64 (by omega) (by omega)]; simp
              have hxe : ∃ x, k[j] = x := ⟨_, rfl⟩
              rcases hxe with ⟨x, hx⟩
              have htk : k.take (j + 1) = k.take j ++ [x] := by rw [List.take_succ_eq_append_getElem hjl, hx]
              have hbd := tot_bound (g := fun x : Ln => x.amt) (B := 9007199254740992) (l := k.take j) fun x hx => by
                have := hsm x hx
                unfold smallL at this
                simp only [Bool.and_eq_true, decide_eq_true_eq] at this
                omega
              rw [← hn, List.length_take, Nat.min_eq_left (by omega)] at hbd
              have h0 := Bool.eq_false_or_eq_true (decide (x.amt ≤ 9007199254740992))
              rcases h0 with q1 | q1
              · have h0 := Bool.eq_false_or_eq_true (decide (x.amt ≥ -9007199254740992))
                rcases h0 with q2 | q2
                · have h0 := Bool.eq_false_or_eq_true (x.obj != 1900)
                  rcases h0 with q3 | q3
                  · have h0 := Bool.eq_false_or_eq_true (x.obj != 2900)
                    rcases h0 with q4 | q4
                    · simp -dsimp only [Vm.G, List.lookup, Nat.reduceAdd, Nat.reduceBEq, Int.reduceBNe, Int.reduceBEq, Nat.reduceLeDiff, q5, c1]
                      refine idx_map lnAv k j hjl ?_
                      simp only [hx, lnAv, lnCells]
                      simp -dsimp only [Vm.G, List.lookup, Nat.reduceAdd, Nat.reduceBEq, Int.reduceBNe, Int.reduceBEq, Nat.reduceLeDiff, q5, AV.cells, List.drop_zero, q1]
                      refine idx_map lnAv k j hjl ?_
                      simp only [hx, lnAv, lnCells]
                      simp -dsimp only [Vm.G, List.lookup, Nat.reduceAdd, Nat.reduceBEq, Int.reduceBNe, Int.reduceBEq, Nat.reduceLeDiff, q5, AV.cells, List.drop_zero, q2]
                      refine idx_map lnAv k j hjl ?_
                      simp only [hx, lnAv, lnCells]
                      simp -dsimp only [Vm.G, List.lookup, Nat.reduceAdd, Nat.reduceBEq, Int.reduceBNe, Int.reduceBEq, Nat.reduceLeDiff, q5, AV.cells, List.drop_zero, q3]
                      refine idx_map lnAv k j hjl ?_
                      simp only [hx, lnAv, lnCells]
                      simp -dsimp only [Vm.G, List.lookup, Nat.reduceAdd, Nat.reduceBEq, Int.reduceBNe, Int.reduceBEq, Nat.reduceLeDiff, q5, AV.cells, List.drop_zero, q4]
                      refine idx_map lnAv k j hjl ?_
                      simp only [hx, lnAv, lnCells]
                      simp -dsimp only [Vm.G, List.lookup, Nat.reduceAdd, Nat.reduceBEq, Int.reduceBNe, Int.reduceBEq, Nat.reduceLeDiff, q5, AV.cells, List.drop_zero, q4]
                      refine kept_intro ⟨k.length - (j + 1), by omega, _, le_mk [(3, .ptr V.iv 0), (5, .sl 4 (k.map lnAv)), (6, .v (.int .i64 (w64 (n + x.amt)))), (7, .v (.bool true)), (8, .v (.int .i64 (j + 1 : Nat))), (19, .sl 1 (l.map lnsAv)), (20, .v (.int .i64 l.length)), (21, .v (.int .i64 i))] ?_, j + 1, w64 (n + x.amt), true, by omega, rfl, fun hbt => ?_, rfl⟩
                      · simp only [List.forall_mem_cons, List.not_mem_nil, false_imp_iff, implies_true, and_true, hwj, q4]
                        try simp -dsimp only [Vm.G, List.lookup, Nat.reduceAdd, Nat.reduceBEq, Int.reduceBNe, Int.reduceBEq, Nat.reduceLeDiff, q5, hwj, q4]
                        repeat' first | exact Fg.refl _ | exact Fg.nil _ _ _ (by decide) | refine And.intro ?_ ?_
                      have b1 := of_decide_eq_true q1
                      have b2 := of_decide_eq_true q2
                      refine ⟨hk20, fun y hy => ?_, ?_⟩
                      · rw [htk] at hy
                        rcases List.mem_append.1 hy with hy | hy
                        · exact hsm y hy
                        · rw [List.mem_singleton] at hy; subst hy
                          unfold smallL
                          rw [q1, q2, q3, q4]; rfl
                      · rw [htk, tot_append, ← hn]
                        show w64 (n + x.amt) = n + (x.amt + 0)
                        have : w64 (n + x.amt) = n + x.amt := wrap_i64 (by omega) (by omega)
                        omega
                    · simp -dsimp only [Vm.G, List.lookup, Nat.reduceAdd, Nat.reduceBEq, Int.reduceBNe, Int.reduceBEq, Nat.reduceLeDiff, q5, c1]
                      refine idx_map lnAv k j hjl ?_
                      simp only [hx, lnAv, lnCells]
                      simp -dsimp only [Vm.G, List.lookup, Nat.reduceAdd, Nat.reduceBEq, Int.reduceBNe, Int.reduceBEq, Nat.reduceLeDiff, q5, AV.cells, List.drop_zero, q1]
                      refine idx_map lnAv k j hjl ?_
                      simp only [hx, lnAv, lnCells]
                      simp -dsimp only [Vm.G, List.lookup, Nat.reduceAdd, Nat.reduceBEq, Int.reduceBNe, Int.reduceBEq, Nat.reduceLeDiff, q5, AV.cells, List.drop_zero, q2]
                      refine idx_map lnAv k j hjl ?_
                      simp only [hx, lnAv, lnCells]
                      simp -dsimp only [Vm.G, List.lookup, Nat.reduceAdd, Nat.reduceBEq, Int.reduceBNe, Int.reduceBEq, Nat.reduceLeDiff, q5, AV.cells, List.drop_zero, q3]
                      refine idx_map lnAv k j hjl ?_
                      simp only [hx, lnAv, lnCells]
                      simp -dsimp only [Vm.G, List.lookup, Nat.reduceAdd, Nat.reduceBEq, Int.reduceBNe, Int.reduceBEq, Nat.reduceLeDiff, q5, AV.cells, List.drop_zero, q4]
                      refine idx_map lnAv k j hjl ?_
                      simp only [hx, lnAv, lnCells]
                      simp -dsimp only [Vm.G, List.lookup, Nat.reduceAdd, Nat.reduceBEq, Int.reduceBNe, Int.reduceBEq, Nat.reduceLeDiff, q5, AV.cells, List.drop_zero, q4]
                      refine kept_intro ⟨k.length - (j + 1), by omega, _, le_mk [(3, .ptr V.iv 0), (5, .sl 4 (k.map lnAv)), (6, .v (.int .i64 (w64 (n + x.amt)))), (7, .v (.bool false)), (8, .v (.int .i64 (j + 1 : Nat))), (19, .sl 1 (l.map lnsAv)), (20, .v (.int .i64 l.length)), (21, .v (.int .i64 i))] ?_, j + 1, w64 (n + x.amt), false, by omega, rfl, fun hbt => ?_, rfl⟩
                      · simp only [List.forall_mem_cons, List.not_mem_nil, false_imp_iff, implies_true, and_true, hwj, q4]
                        try simp -dsimp only [Vm.G, List.lookup, Nat.reduceAdd, Nat.reduceBEq, Int.reduceBNe, Int.reduceBEq, Nat.reduceLeDiff, q5, hwj, q4]
                        repeat' first | exact Fg.refl _ | exact Fg.nil _ _ _ (by decide) | refine And.intro ?_ ?_
                      cases hbt
                  · simp -dsimp only [Vm.G, List.lookup, Nat.reduceAdd, Nat.reduceBEq, Int.reduceBNe, Int.reduceBEq, Nat.reduceLeDiff, q5, c1]
                    refine idx_map lnAv k j hjl ?_
                    simp only [hx, lnAv, lnCells]
                    simp -dsimp only [Vm.G, List.lookup, Nat.reduceAdd, Nat.reduceBEq, Int.reduceBNe, Int.reduceBEq, Nat.reduceLeDiff, q5, AV.cells, List.drop_zero, q1]
                    refine idx_map lnAv k j hjl ?_
                    simp only [hx, lnAv, lnCells]
                    simp -dsimp only [Vm.G, List.lookup, Nat.reduceAdd, Nat.reduceBEq, Int.reduceBNe, Int.reduceBEq, Nat.reduceLeDiff, q5, AV.cells, List.drop_zero, q2]
                    refine idx_map lnAv k j hjl ?_
                    simp only [hx, lnAv, lnCells]
                    simp -dsimp only [Vm.G, List.lookup, Nat.reduceAdd, Nat.reduceBEq, Int.reduceBNe, Int.reduceBEq, Nat.reduceLeDiff, q5, AV.cells, List.drop_zero, q3]
                    refine idx_map lnAv k j hjl ?_
                    simp only [hx, lnAv, lnCells]
                    simp -dsimp only [Vm.G, List.lookup, Nat.reduceAdd, Nat.reduceBEq, Int.reduceBNe, Int.reduceBEq, Nat.reduceLeDiff, q5, AV.cells, List.drop_zero, q3]
                    refine kept_intro ⟨k.length - (j + 1), by omega, _, le_mk [(3, .ptr V.iv 0), (5, .sl 4 (k.map lnAv)), (6, .v (.int .i64 (w64 (n + x.amt)))), (7, .v (.bool false)), (8, .v (.int .i64 (j + 1 : Nat))), (19, .sl 1 (l.map lnsAv)), (20, .v (.int .i64 l.length)), (21, .v (.int .i64 i))] ?_, j + 1, w64 (n + x.amt), false, by omega, rfl, fun hbt => ?_, rfl⟩
                    · simp only [List.forall_mem_cons, List.not_mem_nil, false_imp_iff, implies_true, and_true, hwj, q3]
                      try simp -dsimp only [Vm.G, List.lookup, Nat.reduceAdd, Nat.reduceBEq, Int.reduceBNe, Int.reduceBEq, Nat.reduceLeDiff, q5, hwj, q3]
                      repeat' first | exact Fg.refl _ | exact Fg.nil _ _ _ (by decide) | refine And.intro ?_ ?_
                    cases hbt
                · simp -dsimp only [Vm.G, List.lookup, Nat.reduceAdd, Nat.reduceBEq, Int.reduceBNe, Int.reduceBEq, Nat.reduceLeDiff, q5, c1]
                  refine idx_map lnAv k j hjl ?_
                  simp only [hx, lnAv, lnCells]
                  simp -dsimp only [Vm.G, List.lookup, Nat.reduceAdd, Nat.reduceBEq, Int.reduceBNe, Int.reduceBEq, Nat.reduceLeDiff, q5, AV.cells, List.drop_zero, q1]
                  refine idx_map lnAv k j hjl ?_
                  simp only [hx, lnAv, lnCells]
                  simp -dsimp only [Vm.G, List.lookup, Nat.reduceAdd, Nat.reduceBEq, Int.reduceBNe, Int.reduceBEq, Nat.reduceLeDiff, q5, AV.cells, List.drop_zero, q2]
                  refine idx_map lnAv k j hjl ?_
                  simp only [hx, lnAv, lnCells]
                  simp -dsimp only [Vm.G, List.lookup, Nat.reduceAdd, Nat.reduceBEq, Int.reduceBNe, Int.reduceBEq, Nat.reduceLeDiff, q5, AV.cells, List.drop_zero, q2]
                  refine kept_intro ⟨k.length - (j + 1), by omega, _, le_mk [(3, .ptr V.iv 0), (5, .sl 4 (k.map lnAv)), (6, .v (.int .i64 (w64 (n + x.amt)))), (7, .v (.bool false)), (8, .v (.int .i64 (j + 1 : Nat))), (19, .sl 1 (l.map lnsAv)), (20, .v (.int .i64 l.length)), (21, .v (.int .i64 i))] ?_, j + 1, w64 (n + x.amt), false, by omega, rfl, fun hbt => ?_, rfl⟩
                  · simp only [List.forall_mem_cons, List.not_mem_nil, false_imp_iff, implies_true, and_true, hwj, q2]
                    try simp -dsimp only [Vm.G, List.lookup, Nat.reduceAdd, Nat.reduceBEq, Int.reduceBNe, Int.reduceBEq, Nat.reduceLeDiff, q5, hwj, q2]
                    repeat' first | exact Fg.refl _ | exact Fg.nil _ _ _ (by decide) | refine And.intro ?_ ?_
                  cases hbt
              · simp -dsimp only [Vm.G, List.lookup, Nat.reduceAdd, Nat.reduceBEq, Int.reduceBNe, Int.reduceBEq, Nat.reduceLeDiff, q5, c1]
                refine idx_map lnAv k j hjl ?_
                simp only [hx, lnAv, lnCells]
                simp -dsimp only [Vm.G, List.lookup, Nat.reduceAdd, Nat.reduceBEq, Int.reduceBNe, Int.reduceBEq, Nat.reduceLeDiff, q5, AV.cells, List.drop_zero, q1]
                refine idx_map lnAv k j hjl ?_
                simp only [hx, lnAv, lnCells]
                simp -dsimp only [Vm.G, List.lookup, Nat.reduceAdd, Nat.reduceBEq, Int.reduceBNe, Int.reduceBEq, Nat.reduceLeDiff, q5, AV.cells, List.drop_zero, q1]
                refine kept_intro ⟨k.length - (j + 1), by omega, _, le_mk [(3, .ptr V.iv 0), (5, .sl 4 (k.map lnAv)), (6, .v (.int .i64 (w64 (n + x.amt)))), (7, .v (.bool false)), (8, .v (.int .i64 (j + 1 : Nat))), (19, .sl 1 (l.map lnsAv)), (20, .v (.int .i64 l.length)), (21, .v (.int .i64 i))] ?_, j + 1, w64 (n + x.amt), false, by omega, rfl, fun hbt => ?_, rfl⟩
                · simp only [List.forall_mem_cons, List.not_mem_nil, false_imp_iff, implies_true, and_true, hwj, q1]
                  try simp -dsimp only [Vm.G, List.lookup, Nat.reduceAdd, Nat.reduceBEq, Int.reduceBNe, Int.reduceBEq, Nat.reduceLeDiff, q5, hwj, q1]
                  repeat' first | exact Fg.refl _ | exact Fg.nil _ _ _ (by decide) | refine And.intro ?_ ?_
                cases hbt
            · have hjk : j = k.length := by have := of_decide_eq_false c1; omega
              rw [hjk, List.take_of_length_le (Nat.le_refl _)] at hsm hn
              have hkb : ∀ x ∈ k, (-9007199254740992 ≤ x.amt ∧ x.amt ≤ 9007199254740992) ∧ x.obj ≠ 1900 ∧ x.obj ≠ 2900 := fun x hx => by
                have := hsm x hx
                unfold smallL at this
                simp only [Bool.and_eq_true, decide_eq_true_eq, bne_iff_ne] at this
                omega
              have hbd := tot_bound (g := fun x : Ln => x.amt) (B := 9007199254740992) (l := k) fun x hx => (hkb x hx).1
              rw [← hn] at hbd
              have hneg : IntKind.i64.wrap (-n) = -n := wrap_i64 (by omega) (by omega)
              have hneg2 : IntKind.i64.wrap (0 - n) = -n := by rw [wrap_i64 (by omega) (by omega)]; omega
              have hKe : ∃ K, K = k ++ [⟨100, 3000, 0, -n⟩] := ⟨_, rfl⟩
              rcases hKe with ⟨K, hK⟩
              have hKl : K.length = k.length + 1 := by rw [hK]; simp
              have hKok : ∀ x ∈ K, x.ok := fun x hx => by
                rw [hK] at hx
                rcases List.mem_append.1 hx with hx | hx
                · exact hko x hx
                · rw [List.mem_singleton] at hx; subst hx
                  exact ⟨show I64 100 by unfold I64; omega, show I64 3000 by unfold I64; omega, show I64 0 by unfold I64; omega, show I64 (-n) by unfold I64; omega⟩
              have hKeven : ∀ r, IsFunds K r → EvenT (K ++ balanceL r) := fun r hr => by
                rw [hK] at hr ⊢
                exact small_even hk20 hkb hn hr
              have hfin : k.map lnAv ++ [AV.agg [.v (.int .i64 100), .v (.int .i64 3000), .v (.int .i64 0), .v (.int .i64 (-n))]] = K.map lnAv := by rw [hK]; simp [lnAv, lnCells]
              clear hkb hbd hsm
              simp -dsimp only [Vm.G, List.lookup, Nat.reduceAdd, Nat.reduceBEq, Int.reduceBNe, Int.reduceBEq, Nat.reduceLeDiff, q5, c1, Bool.not_true]
              refine call_one (S := cloneLnSpec) rfl _ GaL.rfl ⟨k, by omega, rfl, fun v hv => ?_⟩
              rcases hv with rfl | ⟨hk0, rfl⟩
              · simp -dsimp only [Vm.G, List.lookup, Nat.reduceAdd, Nat.reduceBEq, Int.reduceBNe, Int.reduceBEq, Nat.reduceLeDiff, q5, hneg, hneg2]
                refine bs_intro zr53 (by decide) (by decide) rfl rfl (by simp [solid, AV.cells]) ?_
                simp -dsimp only [Vm.G, List.lookup, Nat.reduceAdd, Nat.reduceBEq, Int.reduceBNe, Int.reduceBEq, Nat.reduceLeDiff, q5]
                refine app_sl Tryz.underlying51 (by simp [AV.cells]) (by simp only [List.length_map, List.length_cons, List.length_nil]; omega) ?_
                simp -dsimp only [Vm.G, List.lookup, Nat.reduceAdd, Nat.reduceBEq, Int.reduceBNe, Int.reduceBEq, Nat.reduceLeDiff, q5, hfin]
                refine call_one (S := commitSpec) rfl _ GaL.rfl ⟨V, f, rfl, hV, by omega, fun h2 hV2 hm2 hs2 => ?_⟩
                simp -dsimp only [Vm.G, List.lookup, Nat.reduceAdd, Nat.reduceBEq, Int.reduceBNe, Int.reduceBEq, Nat.reduceLeDiff, q5]
                refine call_one (S := entrySpec) rfl _ GaL.rfl ⟨V, f, ⟨0, 2020, 0, 0, 0, 0⟩, K, heok, hKok, by omega, rfl, hV2, fun hc => ?_, fun hc r h3 hr hV3 hs3 => ?_⟩
                · simp -dsimp only [Vm.G, List.lookup, Nat.reduceAdd, Nat.reduceBEq, Int.reduceBNe, Int.reduceBEq, Nat.reduceLeDiff, q5]
                  refine call_one (S := abortSpec) rfl _ GaL.rfl ⟨V, f, f, rfl, hV2, hm2, fun h4 hV4 hm4 hs4 => ?_⟩
                  simp -dsimp only [Vm.G, List.lookup, Nat.reduceAdd, Nat.reduceBEq, Int.reduceBNe, Int.reduceBEq, Nat.reduceLeDiff, q5]
                  refine kept_intro ⟨l.length - (i + 1), by omega, _, le_mk [(3, .ptr V.iv 0), (19, .sl 1 (l.map lnsAv)), (20, .v (.int .i64 l.length)), (21, .v (.int .i64 (i + 1 : Nat)))] ?_, i + 1, f, f, T, by omega, hV4, hm4, hS, hE, by omega, by omega, rfl⟩
                  simp only [List.forall_mem_cons, List.not_mem_nil, false_imp_iff, implies_true, and_true, hw]
                  try simp -dsimp only [Vm.G, List.lookup, Nat.reduceAdd, Nat.reduceBEq, Int.reduceBNe, Int.reduceBEq, Nat.reduceLeDiff, q5, hw]
                  repeat' first | exact Fg.refl _ | exact Fg.nil _ _ _ (by decide) | refine And.intro ?_ ?_
                · have hbl := balance_len r
                  have hrl := hr.len
                  have hqn := stand_n f 2020 0 0 (K ++ balanceL r)
                  rw [List.length_append] at hqn
                  have hst : (standF f 2020 0 0 (K ++ balanceL r)).2.2 = 0 → Stands 2020 (T ++ (K ++ balanceL r)) (standF f 2020 0 0 (K ++ balanceL r)).1 := fun hz => by
                    have he : entryF f 2020 0 0 K (K ++ balanceL r) = standF f 2020 0 0 (K ++ balanceL r) := by unfold entryF; rw [if_neg hc]
                    have := entry_stands (f := f) (y := 2020) (kind := 0) (of := 0) (l := K) (all := K ++ balanceL r) hS (by rw [he]; exact hz)
                    rw [he] at this; exact this
                  have hev := hKeven r hr
                  have hm3 := hm2.same hs3 (by have := hV2.ne.2.2; simp [Ne.symm this])
                  generalize K ++ balanceL r = A at hV3 hqn hst hev ⊢
                  generalize standF f 2020 0 0 A = q at hV3 hqn hst ⊢
                  rcases q with ⟨q0, qi, qe⟩
                  simp only at hV3 hqn hst ⊢
                  have h0 := Bool.eq_false_or_eq_true (qe != 0)
                  rcases h0 with ce | ce
                  · simp -dsimp only [Vm.G, List.lookup, Nat.reduceAdd, Nat.reduceBEq, Int.reduceBNe, Int.reduceBEq, Nat.reduceLeDiff, q5, ce]
                    refine call_one (S := abortSpec) rfl _ GaL.rfl ⟨V, q0, f, rfl, hV3, hm3, fun h4 hV4 hm4 hs4 => ?_⟩
                    simp -dsimp only [Vm.G, List.lookup, Nat.reduceAdd, Nat.reduceBEq, Int.reduceBNe, Int.reduceBEq, Nat.reduceLeDiff, q5]
                    refine kept_intro ⟨l.length - (i + 1), by omega, _, le_mk [(3, .ptr V.iv 0), (19, .sl 1 (l.map lnsAv)), (20, .v (.int .i64 l.length)), (21, .v (.int .i64 (i + 1 : Nat)))] ?_, i + 1, f, f, T, by omega, hV4, hm4, hS, hE, by omega, by omega, rfl⟩
                    simp only [List.forall_mem_cons, List.not_mem_nil, false_imp_iff, implies_true, and_true, hw]
                    try simp -dsimp only [Vm.G, List.lookup, Nat.reduceAdd, Nat.reduceBEq, Int.reduceBNe, Int.reduceBEq, Nat.reduceLeDiff, q5, hw]
                    repeat' first | exact Fg.refl _ | exact Fg.nil _ _ _ (by decide) | refine And.intro ?_ ?_
                  · have hz : qe = 0 := by simpa using ce
                    simp -dsimp only [Vm.G, List.lookup, Nat.reduceAdd, Nat.reduceBEq, Int.reduceBNe, Int.reduceBEq, Nat.reduceLeDiff, q5, ce]
                    refine kept_intro ⟨l.length - (i + 1), by omega, _, le_mk [(3, .ptr V.iv 0), (19, .sl 1 (l.map lnsAv)), (20, .v (.int .i64 l.length)), (21, .v (.int .i64 (i + 1 : Nat)))] ?_, i + 1, q0, f, T ++ A, by omega, hV3, hm3, hst hz, hE.append hev, by omega, by omega, rfl⟩
                    simp only [List.forall_mem_cons, List.not_mem_nil, false_imp_iff, implies_true, and_true, hw]
                    try simp -dsimp only [Vm.G, List.lookup, Nat.reduceAdd, Nat.reduceBEq, Int.reduceBNe, Int.reduceBEq, Nat.reduceLeDiff, q5, hw]
                    repeat' first | exact Fg.refl _ | exact Fg.nil _ _ _ (by decide) | refine And.intro ?_ ?_
              · rw [hk0] at hfin
                simp only [List.map_nil, List.nil_append] at hfin
                simp -dsimp only [Vm.G, List.lookup, Nat.reduceAdd, Nat.reduceBEq, Int.reduceBNe, Int.reduceBEq, Nat.reduceLeDiff, q5, hneg, hneg2]
                refine bs_intro zr53 (by decide) (by decide) rfl rfl (by simp [solid, AV.cells]) ?_
                simp -dsimp only [Vm.G, List.lookup, Nat.reduceAdd, Nat.reduceBEq, Int.reduceBNe, Int.reduceBEq, Nat.reduceLeDiff, q5]
                refine app_sl Tryz.underlying51 (by simp [AV.cells]) (by simp only [List.length_nil, List.length_cons]; omega) ?_
                simp -dsimp only [Vm.G, List.lookup, Nat.reduceAdd, Nat.reduceBEq, Int.reduceBNe, Int.reduceBEq, Nat.reduceLeDiff, q5, hfin]
                refine call_one (S := commitSpec) rfl _ GaL.rfl ⟨V, f, rfl, hV, by omega, fun h2 hV2 hm2 hs2 => ?_⟩
                simp -dsimp only [Vm.G, List.lookup, Nat.reduceAdd, Nat.reduceBEq, Int.reduceBNe, Int.reduceBEq, Nat.reduceLeDiff, q5]
                refine call_one (S := entrySpec) rfl _ GaL.rfl ⟨V, f, ⟨0, 2020, 0, 0, 0, 0⟩, K, heok, hKok, by omega, rfl, hV2, fun hc => ?_, fun hc r h3 hr hV3 hs3 => ?_⟩
                · simp -dsimp only [Vm.G, List.lookup, Nat.reduceAdd, Nat.reduceBEq, Int.reduceBNe, Int.reduceBEq, Nat.reduceLeDiff, q5]
                  refine call_one (S := abortSpec) rfl _ GaL.rfl ⟨V, f, f, rfl, hV2, hm2, fun h4 hV4 hm4 hs4 => ?_⟩
                  simp -dsimp only [Vm.G, List.lookup, Nat.reduceAdd, Nat.reduceBEq, Int.reduceBNe, Int.reduceBEq, Nat.reduceLeDiff, q5]
                  refine kept_intro ⟨l.length - (i + 1), by omega, _, le_mk [(3, .ptr V.iv 0), (19, .sl 1 (l.map lnsAv)), (20, .v (.int .i64 l.length)), (21, .v (.int .i64 (i + 1 : Nat)))] ?_, i + 1, f, f, T, by omega, hV4, hm4, hS, hE, by omega, by omega, rfl⟩
                  simp only [List.forall_mem_cons, List.not_mem_nil, false_imp_iff, implies_true, and_true, hw]
                  try simp -dsimp only [Vm.G, List.lookup, Nat.reduceAdd, Nat.reduceBEq, Int.reduceBNe, Int.reduceBEq, Nat.reduceLeDiff, q5, hw]
                  repeat' first | exact Fg.refl _ | exact Fg.nil _ _ _ (by decide) | refine And.intro ?_ ?_
                · have hbl := balance_len r
                  have hrl := hr.len
                  have hqn := stand_n f 2020 0 0 (K ++ balanceL r)
                  rw [List.length_append] at hqn
                  have hst : (standF f 2020 0 0 (K ++ balanceL r)).2.2 = 0 → Stands 2020 (T ++ (K ++ balanceL r)) (standF f 2020 0 0 (K ++ balanceL r)).1 := fun hz => by
                    have he : entryF f 2020 0 0 K (K ++ balanceL r) = standF f 2020 0 0 (K ++ balanceL r) := by unfold entryF; rw [if_neg hc]
                    have := entry_stands (f := f) (y := 2020) (kind := 0) (of := 0) (l := K) (all := K ++ balanceL r) hS (by rw [he]; exact hz)
                    rw [he] at this; exact this
                  have hev := hKeven r hr
                  have hm3 := hm2.same hs3 (by have := hV2.ne.2.2; simp [Ne.symm this])
                  generalize K ++ balanceL r = A at hV3 hqn hst hev ⊢
                  generalize standF f 2020 0 0 A = q at hV3 hqn hst ⊢
                  rcases q with ⟨q0, qi, qe⟩
                  simp only at hV3 hqn hst ⊢
                  have h0 := Bool.eq_false_or_eq_true (qe != 0)
                  rcases h0 with ce | ce
                  · simp -dsimp only [Vm.G, List.lookup, Nat.reduceAdd, Nat.reduceBEq, Int.reduceBNe, Int.reduceBEq, Nat.reduceLeDiff, q5, ce]
                    refine call_one (S := abortSpec) rfl _ GaL.rfl ⟨V, q0, f, rfl, hV3, hm3, fun h4 hV4 hm4 hs4 => ?_⟩
                    simp -dsimp only [Vm.G, List.lookup, Nat.reduceAdd, Nat.reduceBEq, Int.reduceBNe, Int.reduceBEq, Nat.reduceLeDiff, q5]
                    refine kept_intro ⟨l.length - (i + 1), by omega, _, le_mk [(3, .ptr V.iv 0), (19, .sl 1 (l.map lnsAv)), (20, .v (.int .i64 l.length)), (21, .v (.int .i64 (i + 1 : Nat)))] ?_, i + 1, f, f, T, by omega, hV4, hm4, hS, hE, by omega, by omega, rfl⟩
                    simp only [List.forall_mem_cons, List.not_mem_nil, false_imp_iff, implies_true, and_true, hw]
                    try simp -dsimp only [Vm.G, List.lookup, Nat.reduceAdd, Nat.reduceBEq, Int.reduceBNe, Int.reduceBEq, Nat.reduceLeDiff, q5, hw]
                    repeat' first | exact Fg.refl _ | exact Fg.nil _ _ _ (by decide) | refine And.intro ?_ ?_
                  · have hz : qe = 0 := by simpa using ce
                    simp -dsimp only [Vm.G, List.lookup, Nat.reduceAdd, Nat.reduceBEq, Int.reduceBNe, Int.reduceBEq, Nat.reduceLeDiff, q5, ce]
                    refine kept_intro ⟨l.length - (i + 1), by omega, _, le_mk [(3, .ptr V.iv 0), (19, .sl 1 (l.map lnsAv)), (20, .v (.int .i64 l.length)), (21, .v (.int .i64 (i + 1 : Nat)))] ?_, i + 1, q0, f, T ++ A, by omega, hV3, hm3, hst hz, hE.append hev, by omega, by omega, rfl⟩
                    simp only [List.forall_mem_cons, List.not_mem_nil, false_imp_iff, implies_true, and_true, hw]
                    try simp -dsimp only [Vm.G, List.lookup, Nat.reduceAdd, Nat.reduceBEq, Int.reduceBNe, Int.reduceBEq, Nat.reduceLeDiff, q5, hw]
                    repeat' first | exact Fg.refl _ | exact Fg.nil _ _ _ (by decide) | refine And.intro ?_ ?_
      · have hge : ¬ i < l.length := by have := of_decide_eq_false hcc; omega
        clear hcc
        simp -dsimp only [Vm.G, List.lookup, Nat.reduceAdd, Nat.reduceBEq, Int.reduceBNe, Int.reduceBEq, Nat.reduceLeDiff, q5]
        refine call_one (S := trightSpec) rfl _ GaL.rfl ⟨V, f, 2020, rfl, hV, by omega, fun kv h2 hsc hV2 hs2 => ?_⟩
        have hrt := right_stands (y := 2020) (by unfold InR; omega) hS hE hsc
        simp -dsimp only [Vm.G, List.lookup, Nat.reduceAdd, Nat.reduceBEq, Int.reduceBNe, Int.reduceBEq, Nat.reduceLeDiff, q5, hrt]
        refine call_one (S := yesSpec) rfl _ GaL.rfl ⟨rfl, fun hz => ?_⟩
        simp -dsimp only [Vm.G, List.lookup, Nat.reduceAdd, Nat.reduceBEq, Int.reduceBNe, Int.reduceBEq, Nat.reduceLeDiff, q5]
        exact hq _
theorem trl_args {y0 : AV} (i0 : IsA (.sl (.sl (.agg [.int .i64, .int .i64, .int .i64, .int .i64]))) y0) {Q : AV → Heap → Prop} (hq : ∀ h', Q (.v (.bool true)) h') : trlSpec [y0] [] Q := by
  obtain ⟨l, hl, rfl, ho⟩ := isA_list (fun k : List Ln => k.length ≤ 9223372036854775807 ∧ ∀ x ∈ k, x.ok) lnsAv (fun y hy => by
    obtain ⟨k, hk, rfl, hko⟩ := isA_list _ lnAv (fun y hy => isA_lnk hy) hy
    exact ⟨k, ⟨Nat.le_trans hk (by decide), hko⟩, rfl⟩) i0
  exact ⟨l, Nat.le_trans hl (by decide), ho, rfl, hq⟩
end Go.Proofs.Lx
/- The reference's view, with what was told. -/
set_option linter.unusedSimpArgs false
set_option linter.unusedVariables false
namespace Go.Proofs.Lx
open Go.Vm
attribute [local irreducible] awpArr awpBin awpMake awpAppend awpCvX awpStrOf awpBinX awpSlice awpBS awpStore awpAlloc awpCopy awpIndex awpDraw awpIdxX awpFa awpField awpLookup awpUpdate awpDelete awpClear awpRange awpNext awpEntry awpBuild awpClearS awpIdxL awpTree appB awpIdxO eltA treeA
def isRefX (h : Heap) (R : RId) (f g t : Fun) : Prop :=
  ∃ lw ln lt : List KV, h[R.iv]? = some (.cells [.ptr R.iw 0, .ptr R.inn 0, .ptr R.it 0]) ∧ h[R.iw]? = some (tabObj lw) ∧ h[R.inn]? = some (tabObj ln) ∧ h[R.it]? = some (tabObj lt) ∧
    (R.iv ≠ R.inn ∧ R.iv ≠ R.it ∧ R.inn ≠ R.it ∧ R.iw ≠ R.inn ∧ R.iw ≠ R.it) ∧ (TabIs f ln ∧ TabIs g lw ∧ TabIs t lt) ∧ (ln.length ≤ f.n ∧ lw.length ≤ g.n ∧ lt.length ≤ t.n ∧ t.n ≤ f.n) ∧
    ∀ p : KV, p ∈ ln ∨ p ∈ lw ∨ p ∈ lt → p.1.length ≤ 32 ∧ p.2.length ≤ 120
theorem isRefX.ref {h : Heap} {R : RId} {f g t : Fun} (hR : isRefX h R f g t) : isRef h R f := by
  obtain ⟨lw, ln, lt, h1, h2, h3, h4, h5, h6, h7, h8⟩ := hR
  exact ⟨lw, ln, lt, h1, h2, h3, h4, h5, h6.1, ⟨h7.1, by omega⟩, fun p hp => h8 p (.inl hp)⟩
theorem isRefX.same {h h' : Heap} {R : RId} {f g t : Fun} {fp : List Nat} (hR : isRefX h R f g t) (hs : Same h h' fp) (hd : ∀ i ∈ [R.iv, R.iw, R.inn, R.it], i ∉ fp) : isRefX h' R f g t := by
  obtain ⟨lw, ln, lt, h1, h2, h3, h4, h5⟩ := hR
  exact ⟨lw, ln, lt, hs.get h1 (hd _ (by simp)), hs.get h2 (hd _ (by simp)), hs.get h3 (hd _ (by simp)), hs.get h4 (hd _ (by simp)), h5⟩
theorem isRefX_new (h : Heap) : isRefX (rNewH h) (rNewId h) noF noF noF := by
  unfold rNewH rNewId
  refine ⟨[], [], [], ?_, ?_, ?_, ?_, ⟨by simp, by simp, by simp, by simp, by simp⟩, ⟨TabIs.new, TabIs.new, TabIs.new⟩, ⟨by simp, by simp, by simp, by simp⟩, by simp⟩
  · rw [List.getElem?_append_right (by simp)]; simp
  · rw [List.getElem?_append_right (by simp)]; simp
  · rw [List.getElem?_append_right (by simp)]; simp
  · rw [List.getElem?_append_right (by simp)]; simp
def tdel (k : List UInt8) (l : List KV) : List KV := l.filter fun p => !(p.1 == k)
theorem TabIs.del {f : Fun} {l : List KV} (h : TabIs f l) (k : List UInt8) : TabIs (upd f k none) (tdel k l) := by
  refine ⟨h.1.sublist List.filter_sublist, fun k' v' => ?_⟩
  unfold tdel
  rw [List.mem_filter, h.2, upd_app]
  by_cases hk : k' = k
  · simp [hk]
  · simp [hk]
theorem tdel_len {f : Fun} {l : List KV} (h : TabIs f l) (k : List UInt8) : decide (((tdel k l).length : Int) < l.length) = (f k).isSome := by
  cases hf : f k with
  | some v =>
    refine decide_eq_true ?_
    have : (tdel k l).length < l.length := by
      unfold tdel
      rw [List.length_filter_lt_length_iff_exists]
      exact ⟨(k, v), (h.2 k v).2 hf, by simp⟩
    omega
  | none =>
    refine decide_eq_false ?_
    have : tdel k l = l := by
      unfold tdel
      rw [List.filter_eq_self]
      intro p hp
      have : ¬ p.1 = k := fun e => by
        have := (h.2 p.1 p.2).1 hp
        rw [e, hf] at this; cases this
      simpa using this
    rw [this]; omega
def rPutXSpec : Vm.Spec := fun args h Q => ∃ (R : RId) (f g t : Fun) (k v : List UInt8), args = [.ptr R.iv 0, .sl 1 (k.map encB), .sl 1 (v.map encB)] ∧ isRefX h R f g t ∧ f.n ≤ 536870912 ∧
  (rightKV k v = true → ∀ h', isRefX h' R (upd f k (some v)) g (upd t k (some [])) → Same h h' (rFoot R) → Q (.v (.int .i64 0)) h') ∧ (rightKV k v = false → Q (.v (.int .i64 1)) h)
theorem does_rPutX : Does Tryz.prog 38 rPutXSpec := by
  refine does_of_awp (good_cons does_rRight (good_cons does_tPut good_nil)) Tryz.func38 rfl (by decide +kernel) (by decide +kernel) ?_
  rintro args h Q ⟨R, f, g, t, k, v, rfl, hR, hn, hq1, hq2⟩
  refine ⟨by simp [Tryz.f38], ?_⟩
  rw [awpFunc_some (by rfl)]
  obtain ⟨lw, ln, lt, h1, h2, h3, h4, h5, h6, h7, h8⟩ := hR
  simp -dsimp only [Vm.G, List.lookup, Nat.reduceAdd, Nat.reduceBEq, Int.reduceBNe, Int.reduceBEq, Nat.reduceLeDiff]
  refine call_one (S := rRightSpec) rfl _ GaL.rfl ⟨k, v, rfl, ?_⟩
  cases hr : rightKV k v
  · simp -dsimp only [Vm.E, List.lookup, Nat.reduceAdd, Nat.reduceBEq, Int.reduceBNe, Int.reduceBEq, Bool.true_beq, Bool.false_beq, Tryz.results38]
    exact hq2 hr
  · have hrk : k.length ≤ 32 ∧ v.length ≤ 120 := by unfold rightKV at hr; simp at hr; omega
    simp -dsimp only [Vm.G, List.lookup, Nat.reduceAdd, Nat.reduceBEq, Int.reduceBNe, Int.reduceBEq, Nat.reduceLeDiff, fo80_2, h1, of76]
    refine call_one (S := tPutSpec) rfl _ (.cons (.refl _) (.cons (.refl _) (.cons (.nil 1) .nil))) ⟨R.it, lt, k, [], rfl, h4, by omega, by omega, by simp, ?_⟩
    have g1 : (h.set R.it (tabObj (tput k [] lt)))[R.iv]? = some (.cells [.ptr R.iw 0, .ptr R.inn 0, .ptr R.it 0]) := by rw [List.getElem?_set_ne (by exact fun e => h5.2.1 e.symm)]; exact h1
    have g3 : (h.set R.it (tabObj (tput k [] lt)))[R.inn]? = some (tabObj ln) := by rw [List.getElem?_set_ne (by exact fun e => h5.2.2.1 e.symm)]; exact h3
    have g2 : (h.set R.it (tabObj (tput k [] lt)))[R.iw]? = some (tabObj lw) := by rw [List.getElem?_set_ne (by exact fun e => h5.2.2.2.2 e.symm)]; exact h2
    have g4 : (h.set R.it (tabObj (tput k [] lt)))[R.it]? = some (tabObj (tput k [] lt)) := List.getElem?_set_self (get_lt h4)
    have gs : Same h (h.set R.it (tabObj (tput k [] lt))) (rFoot R) := ⟨by simp, fun i hl hi => List.getElem?_set_ne (by simp [rFoot] at hi; exact fun e => hi.2 e.symm)⟩
    generalize h.set R.it (tabObj (tput k [] lt)) = h2' at g1 g2 g3 g4 gs ⊢
    simp -dsimp only [Vm.G, List.lookup, Nat.reduceAdd, Nat.reduceBEq, Int.reduceBNe, Int.reduceBEq, Nat.reduceLeDiff, fo80_1, g1, of76]
    refine call_one (S := tPutSpec) rfl _ GaL.rfl ⟨R.inn, ln, k, v, rfl, g3, by omega, by omega, by omega, ?_⟩
    simp -dsimp only [Vm.E, List.lookup, Nat.reduceAdd, Nat.reduceBEq, Int.reduceBNe, Int.reduceBEq, Bool.true_beq, Bool.false_beq, Tryz.results38]
    refine hq1 hr _ ⟨lw, tput k v ln, tput k [] lt, ?_, ?_, ?_, ?_, h5, ⟨h6.1.put k v, h6.2.1, h6.2.2.put k []⟩, ⟨?_, h7.2.1, ?_, ?_⟩, fun p hp => ?_⟩ ?_
    · rw [List.getElem?_set_ne (by exact fun e => h5.1 e.symm)]; exact g1
    · rw [List.getElem?_set_ne (by exact fun e => h5.2.2.2.1 e.symm)]; exact g2
    · exact List.getElem?_set_self (get_lt g3)
    · rw [List.getElem?_set_ne h5.2.2.1]; exact g4
    · have := tput_length k v ln; show _ ≤ f.n + 1; omega
    · have := tput_length k [] lt; show _ ≤ t.n + 1; omega
    · show t.n + 1 ≤ f.n + 1; omega
    · rcases hp with hp | hp | hp
      · rcases tput_mem1 hp with rfl | hp
        · exact hrk
        · exact h8 p (.inl hp)
      · exact h8 p (.inr (.inl hp))
      · rcases tput_mem1 hp with rfl | hp
        · exact ⟨hrk.1, by simp⟩
        · exact h8 p (.inr (.inr hp))
    · exact ⟨by rw [List.length_set]; exact gs.1, fun i hl hi => by
        rw [List.getElem?_set_ne (by simp [rFoot] at hi; exact fun e => hi.1 e.symm)]; exact gs.2 i hl hi⟩
def rComXSpec : Vm.Spec := fun args h Q => ∃ (R : RId) (f g t : Fun), args = [.ptr R.iv 0] ∧ isRefX h R f g t ∧ ∀ h', isRefX h' (rComId R h) f f noF → Same h h' [R.iv] → Q (.tup []) h'
theorem does_rComX : Does Tryz.prog 43 rComXSpec := by
  refine (does_weakH does_rCom0).imp ?_
  rintro args h Q ⟨R, f, g, t, rfl, ⟨lw, ln, lt, h1, h2, h3, h4, ⟨n1, n2, n3, n4, n5⟩, h6, h7, h9⟩, hq⟩
  refine ⟨h, .refl h, R, ln, rfl, h1, h3, _, gaH_two _ _, ?_⟩
  have hi := get_lt h1
  have hn := get_lt h3
  refine hq _ ⟨ln, ln, [], get_twoI hi _ _ _, get_two0 _ _ _ _ _, get_two h3 n1.symm, get_two1 _ _ _ _ _, ⟨?_, ?_, ?_, ?_, ?_⟩, ⟨h6.1, h6.1, TabIs.new⟩, ⟨h7.1, h7.1, by simp, by simp [noF]⟩, fun p hp => ?_⟩ (same_two _ _ _)
  · simp only [rComId]; omega
  · simp only [rComId]; omega
  · simp only [rComId]; omega
  · simp only [rComId]; omega
  · simp only [rComId]; omega
  · rcases hp with hp | hp | hp
    · exact h9 p (.inl hp)
    · exact h9 p (.inl hp)
    · simp at hp
def rAbXSpec : Vm.Spec := fun args h Q => ∃ (R : RId) (f g t : Fun), args = [.ptr R.iv 0] ∧ isRefX h R f g t ∧ ∀ h', isRefX h' (rAbId R h) g g noF → Same h h' [R.iv] → Q (.tup []) h'
theorem does_rAbX : Does Tryz.prog 44 rAbXSpec := by
  refine (does_weakH does_rAb0).imp ?_
  rintro args h Q ⟨R, f, g, t, rfl, ⟨lw, ln, lt, h1, h2, h3, h4, ⟨n1, n2, n3, n4, n5⟩, h6, h7, h9⟩, hq⟩
  have nw : R.iw ≠ R.iv := fun e => by
    rw [e, h1] at h2
    have := Option.some.inj h2
    unfold tabObj at this
    injection this with e
    have := congrArg List.length e
    simp at this
  refine ⟨h, .refl h, R, lw, rfl, h1, h2, _, gaH_two _ _, ?_⟩
  have hi := get_lt h1
  have hn := get_lt h2
  refine hq _ ⟨lw, lw, [], get_twoI hi _ _ _, get_two h2 nw, get_two0 _ _ _ _ _, get_two1 _ _ _ _ _, ⟨?_, ?_, ?_, ?_, ?_⟩, ⟨h6.2.1, h6.2.1, TabIs.new⟩, ⟨h7.2.1, h7.2.1, by simp, by simp [noF]⟩, fun p hp => ?_⟩ (same_two _ _ _)
  · simp only [rAbId]; omega
  · simp only [rAbId]; omega
  · simp only [rAbId]; omega
  · simp only [rAbId]; omega
  · simp only [rAbId]; omega
  · rcases hp with hp | hp | hp
    · exact h9 p (.inr (.inl hp))
    · exact h9 p (.inr (.inl hp))
    · simp at hp
def BothX (h : Heap) (V : VId) (R : RId) (f g t : Fun) : Prop :=
  isView h V f ∧ memV h V g ∧ isRefX h R f g t ∧ (∀ i ∈ [V.iv, V.ic, V.im], i ∉ [R.iv, R.iw, R.inn, R.it]) ∧ ∀ k, f k ≠ g k → t k ≠ none
theorem BothX.both {h : Heap} {V : VId} {R : RId} {f g t : Fun} (hB : BothX h V R f g t) : Both h V R f := ⟨hB.1, hB.2.2.1.ref, hB.2.2.2.1⟩
theorem BothX.view {h h' : Heap} {V : VId} {R : RId} {f g t : Fun} (hB : BothX h V R f g t) (hs : Same h h' [V.ic]) : isRefX h' R f g t :=
  hB.2.2.1.same hs fun i hi hm => by
    rw [List.mem_singleton] at hm; subst hm
    exact hB.2.2.2.1 V.ic (by simp) hi
theorem BothX.step {h h' h2 : Heap} {V : VId} {R : RId} {f f' g t t' : Fun} (hB : BothX h V R f g t) (hV : isView h' V f') (hs : Same h h' [V.ic]) (hR : isRefX h2 R f' g t') (hs2 : Same h' h2 (rFoot R)) (ht : ∀ k, f' k ≠ g k → t' k ≠ none) : BothX h2 V R f' g t' := by
  obtain ⟨b1, b2, b3, b4, b5⟩ := hB
  have hd : ∀ i ∈ [V.iv, V.ic, V.im], i ∉ rFoot R := fun i hi hm => b4 i hi (by simp [rFoot] at hm ⊢; rcases hm with rfl | rfl <;> simp)
  refine ⟨hV.same hs2 hd, (b2.same hs ?_).same hs2 (hd _ (by simp)), hR, b4, ht⟩
  have := b1.ne.2.2
  simp [Ne.symm this]
theorem BothX.quiet {h h' : Heap} {V : VId} {R : RId} {f g t : Fun} (hB : BothX h V R f g t) (hV : isView h' V f) (hs : Same h h' []) : BothX h' V R f g t :=
  ⟨hV, hB.2.1.same hs (by simp), hB.2.2.1.same hs (by simp), hB.2.2.2⟩
theorem told_upd {f g t : Fun} {k : List UInt8} {o : Option (List UInt8)} (h : ∀ k, f k ≠ g k → t k ≠ none) : ∀ q, upd f k o q ≠ g q → upd t k (some []) q ≠ none := fun q hq => by
  rw [upd_app] at hq ⊢
  by_cases e : q = k
  · rw [if_pos e]; exact fun e => by cases e
  · rw [if_neg e] at hq ⊢; exact h q hq
theorem BothX.turn {h h1 h2 : Heap} {V : VId} {R R' : RId} {f g k t : Fun} (hB : BothX h V R f g t) (hV : isView h1 V k) (hs : Same h h1 [V.ic, V.im]) (hm : memV h1 V k) (hR : isRefX h2 R' k k noF) (hs2 : Same h1 h2 [R.iv]) (hid : R' = rComId R h1 ∨ R' = rAbId R h1) : BothX h2 V R' k k noF := by
  have hD := hB.2.2.2.1
  have hb := both_turn hB.both hV hs hR.ref hs2 hm (by
    obtain ⟨lw, ln, lt, q1, q2, q3, q4, q5, q6, q7, q8⟩ := hR
    exact ⟨lw, q2, q6.2.1, q7.2.1, fun p hp => q8 p (.inr (.inl hp))⟩) hid
  exact ⟨hb.1.1, hb.2.1, hR, hb.1.2.2, fun k hk => absurd rfl hk⟩
theorem BothX.viewM {h h' : Heap} {V : VId} {R : RId} {f g t : Fun} (hB : BothX h V R f g t) (hs : Same h h' [V.ic, V.im]) : isRefX h' R f g t :=
  hB.2.2.1.same hs fun i hi hm => by
    simp only [List.mem_cons, List.not_mem_nil, or_false] at hm
    rcases hm with rfl | rfl
    · exact hB.2.2.2.1 V.ic (by simp) hi
    · exact hB.2.2.2.1 V.im (by simp) hi
def tDelSpec : Vm.Spec := fun args h Q => ∃ (i : Nat) (l : List KV) (k : List UInt8), args = [.ptr i 0, .sl 1 (k.map encB)] ∧ h[i]? = some (tabObj l) ∧ l.length ≤ 1073741824 ∧
  Q (.v (.bool (decide (((tdel k l).length : Int) < l.length)))) (h.set i (tabObj (tdel k l)))
set_option maxRecDepth 20000 in
set_option maxHeartbeats 1000000 in
theorem does_tDel : Does Tryz.prog 70 tDelSpec := by
  refine does_of_awp good_nil Tryz.func70 rfl (by decide +kernel) (by decide +kernel) ?_
  rintro args h Q ⟨id, l, k, rfl, hh, hl, hq⟩
  refine ⟨by simp [Tryz.f70], ?_⟩
  rw [awpFunc_some (by rfl)]
  unfold tabObj at hh hq
  simp -dsimp only [Vm.G, List.lookup, Nat.reduceAdd, Nat.reduceBEq, Int.reduceBNe, Int.reduceBEq, Nat.reduceLeDiff, q70]
  refine awp_loop (fun m s h' => ∃ i : Nat, i + m = l.length ∧ h' = h ∧ s = mk [(0, .ptr id 0), (1, .sl 1 (k.map encB)), (5, .own true 68 2 ((tdel k (l.take (i))).map kvAv)), (6, .v (.int .i64 (i : Nat)))])
    l.length _ (le_mk _ ?_) ⟨0, by omega, rfl, rfl⟩ ?_
  · simp only [List.forall_mem_cons, List.not_mem_nil, false_imp_iff, implies_true, and_true]
    try simp -dsimp only [Vm.G, List.lookup, Nat.reduceAdd, Nat.reduceBEq, Int.reduceBNe, Int.reduceBEq, Nat.reduceLeDiff, q70]
    repeat' first | exact Fg.refl _ | exact Fg.nil _ _ _ (by decide) | refine And.intro ?_ ?_
  · rintro m s h' ⟨i, hi, rfl, rfl⟩
    simp -dsimp only [Vm.G, List.lookup, Nat.reduceAdd, Nat.reduceBEq, Int.reduceBNe, Int.reduceBEq, Nat.reduceLeDiff, q70, hh]
    refine cond_intro (fun hcc => ?_) (fun hcc => ?_)
    · have hlt : i < l.length := by have := of_decide_eq_true hcc; omega
      have hw : IntKind.i64.wrap ((i : Int) + 1) = ((i + 1 : Nat) : Int) := by rw [wrap_i64 (by omega) (by omega)]; simp
      obtain ⟨p, hp⟩ : ∃ p, l[i] = p := ⟨_, rfl⟩
      have hlen : (tdel k (l.take i)).length ≤ i := Nat.le_trans (List.length_filter_le ..) (by rw [List.length_take]; omega)
      have est : tdel k (l.take (i + 1)) = tdel k (l.take i) ++ if (p.1 == k) = true then [] else [p] := by
        rw [List.take_succ_eq_append_getElem hlt, tdel, List.filter_append, hp, List.filter_cons, List.filter_nil]
        cases (p.1 == k) <;> rfl
      simp -dsimp only [Vm.G, List.lookup, Nat.reduceAdd, Nat.reduceBEq, Int.reduceBNe, Int.reduceBEq, Nat.reduceLeDiff, q70]
      refine draw_cont [] (.take 0 (.take 1 (.take 2 (.take 4 (.take 9 (.take 10 (.alt 3 (.take 5 (.take 6 (.take 7 (.take 8 (.take 11 (.done)))))) .stop))))))) (fun s h2 => h2 = h' ∧ s 28 = .v (.bool (!(p.1 == k))) ∧ s 0 = .ptr id 0 ∧ s 1 = .sl 1 (k.map encB) ∧ s 5 = .own true 68 2 ((tdel k (l.take i)).map kvAv) ∧ s 6 = .v (.int .i64 i)) (by kernel_rfl) (by kernel_rfl) (by kernel_rfl) (by decide) ?_ ?_
      · repeat' first
          | with_reducible exact True.intro
          | refine strOf_sl bt22 k rfl ?_
          | refine strOf_sl bt22 p.1 rfl ?_
          | (refine idx_map kvAv l i hlt ?_; simp only [hp, kvAv])
          | simp -dsimp only [Vm.G, List.lookup, Nat.reduceAdd, Nat.reduceBEq, Int.reduceBNe, Int.reduceBEq, Nat.reduceLeDiff, q70, hh, AV.cells, str_neq, toList_mk]
          | refine tree_alt ?_ ?_
          | repeat' first | rfl | exact True.intro | refine And.intro ?_ ?_
      · rintro s h2 ⟨rfl, e28, e0, e1, e5, e6⟩
        have hd := Bool.eq_false_or_eq_true (p.1 == k)
        rcases hd with c | c
        · rw [c] at e28 est
          simp only [if_true, List.append_nil] at est
          simp -dsimp only [Vm.G, List.lookup, Nat.reduceAdd, Nat.reduceBEq, Int.reduceBNe, Int.reduceBEq, Nat.reduceLeDiff, q70, e28, e0, e1, e5, e6, Bool.not_true]
          refine kept_intro ⟨l.length - (i + 1), by omega, _, le_mk [(0, .ptr id 0), (1, .sl 1 (k.map encB)), (5, .own true 68 2 ((tdel k (l.take (i + 1))).map kvAv)), (6, .v (.int .i64 (i + 1 : Nat)))] ?_, i + 1, by omega, rfl, rfl⟩
          simp only [List.forall_mem_cons, List.not_mem_nil, false_imp_iff, implies_true, and_true, hw, e0, e1, e5, e6, est]
          try simp -dsimp only [Vm.G, List.lookup, Nat.reduceAdd, Nat.reduceBEq, Int.reduceBNe, Int.reduceBEq, Nat.reduceLeDiff, q70, hw, e0, e1, e5, e6, est]
          repeat' first | exact Fg.refl _ | exact Fg.nil _ _ _ (by decide) | refine And.intro ?_ ?_
        · rw [c] at e28 est
          simp only [Bool.false_eq_true, if_false] at est
          simp -dsimp only [Vm.G, List.lookup, Nat.reduceAdd, Nat.reduceBEq, Int.reduceBNe, Int.reduceBEq, Nat.reduceLeDiff, q70, e28, e0, e1, e5, e6, Bool.not_false, hh]
          refine idx_map kvAv l i hlt ?_
          simp only [hp, kvAv]
          simp -dsimp only [Vm.G, List.lookup, Nat.reduceAdd, Nat.reduceBEq, Int.reduceBNe, Int.reduceBEq, Nat.reduceLeDiff, q70, e0, e1, e5, e6, AV.cells]
          refine bs_intro zr68 (by decide) (by decide) rfl rfl (by simp [solid, AV.cells]) ?_
          simp -dsimp only [Vm.G, List.lookup, Nat.reduceAdd, Nat.reduceBEq, Int.reduceBNe, Int.reduceBEq, Nat.reduceLeDiff, q70, e0, e1, e5, e6]
          refine app_sl Tryz.underlying33 (by simp [AV.cells]) (by simp only [List.length_map, List.length_cons, List.length_nil]; omega) ?_
          simp -dsimp only [Vm.G, List.lookup, Nat.reduceAdd, Nat.reduceBEq, Int.reduceBNe, Int.reduceBEq, Nat.reduceLeDiff, q70, e0, e1, e5, e6]
          refine kept_intro ⟨l.length - (i + 1), by omega, _, le_mk [(0, .ptr id 0), (1, .sl 1 (k.map encB)), (5, .own true 68 2 ((tdel k (l.take (i + 1))).map kvAv)), (6, .v (.int .i64 (i + 1 : Nat)))] ?_, i + 1, by omega, rfl, rfl⟩
          simp only [List.forall_mem_cons, List.not_mem_nil, false_imp_iff, implies_true, and_true, hw, e0, e1, e5, e6, est, List.map_append, List.map_cons, List.map_nil, kvAv]
          try simp -dsimp only [Vm.G, List.lookup, Nat.reduceAdd, Nat.reduceBEq, Int.reduceBNe, Int.reduceBEq, Nat.reduceLeDiff, q70, hw, e0, e1, e5, e6, est, List.map_append, List.map_cons, List.map_nil, kvAv]
          repeat' first | exact Fg.refl _ | exact Fg.nil _ _ _ (by decide) | refine And.intro ?_ ?_
    · have hge : ¬ i < l.length := by have := of_decide_eq_false hcc; omega
      rw [List.take_of_length_le (by omega)]
      simp -dsimp only [Vm.G, List.lookup, Nat.reduceAdd, Nat.reduceBEq, Int.reduceBNe, Int.reduceBEq, Nat.reduceLeDiff, q70, hh]
      exact hq
def rDelXSpec : Vm.Spec := fun args h Q => ∃ (R : RId) (f g t : Fun) (k : List UInt8), args = [.ptr R.iv 0, .sl 1 (k.map encB)] ∧ isRefX h R f g t ∧ f.n ≤ 536870912 ∧
  (f k ≠ none → ∀ h', isRefX h' R (upd f k none) g (upd t k (some [])) → Same h h' (rFoot R) → Q (.v (.bool true)) h') ∧ (f k = none → Q (.v (.bool false)) h)
set_option maxHeartbeats 1000000 in
theorem does_rDelX : Does Tryz.prog 39 rDelXSpec := by
  refine does_of_awp (good_cons does_tGet (good_cons does_tPut (good_cons does_tDel good_nil))) Tryz.func39 rfl (by decide +kernel) (by decide +kernel) ?_
  rintro args h Q ⟨R, f, g, t, k, rfl, hR, hn, hq1, hq2⟩
  refine ⟨by simp [Tryz.f39], ?_⟩
  rw [awpFunc_some (by rfl)]
  obtain ⟨lw, ln, lt, h1, h2, h3, h4, h5, h6, h7, h8⟩ := hR
  simp -dsimp only [Vm.G, List.lookup, Nat.reduceAdd, Nat.reduceBEq, Int.reduceBNe, Int.reduceBEq, Nat.reduceLeDiff, q39, h1]
  refine call_one (S := tGetSpec) rfl _ GaL.rfl ⟨R.inn, ln, k, rfl, h3, by omega, fun p hp => by have := (h8 p (.inl hp)).2; omega, fun v hv => ?_, fun hv => ?_⟩
  · rw [h6.1.find] at hv
    have hk32 : k.length ≤ 32 := (h8 _ (.inl ((h6.1.2 k v).2 hv))).1
    simp -dsimp only [Vm.G, List.lookup, Nat.reduceAdd, Nat.reduceBEq, Int.reduceBNe, Int.reduceBEq, Nat.reduceLeDiff, q39, h1]
    refine call_one (S := tPutSpec) rfl _ (.cons (.refl _) (.cons (.refl _) (.cons (.nil 1) .nil))) ⟨R.it, lt, k, [], rfl, h4, by omega, by omega, by simp, ?_⟩
    have g1 : (h.set R.it (tabObj (tput k [] lt)))[R.iv]? = some (.cells [.ptr R.iw 0, .ptr R.inn 0, .ptr R.it 0]) := by rw [List.getElem?_set_ne (by exact fun e => h5.2.1 e.symm)]; exact h1
    have g3 : (h.set R.it (tabObj (tput k [] lt)))[R.inn]? = some (tabObj ln) := by rw [List.getElem?_set_ne (by exact fun e => h5.2.2.1 e.symm)]; exact h3
    have g2 : (h.set R.it (tabObj (tput k [] lt)))[R.iw]? = some (tabObj lw) := by rw [List.getElem?_set_ne (by exact fun e => h5.2.2.2.2 e.symm)]; exact h2
    have g4 : (h.set R.it (tabObj (tput k [] lt)))[R.it]? = some (tabObj (tput k [] lt)) := List.getElem?_set_self (get_lt h4)
    have gs : Same h (h.set R.it (tabObj (tput k [] lt))) (rFoot R) := ⟨by simp, fun i hl hi => List.getElem?_set_ne (by simp [rFoot] at hi; exact fun e => hi.2 e.symm)⟩
    generalize h.set R.it (tabObj (tput k [] lt)) = h2' at g1 g2 g3 g4 gs ⊢
    simp -dsimp only [Vm.G, List.lookup, Nat.reduceAdd, Nat.reduceBEq, Int.reduceBNe, Int.reduceBEq, Nat.reduceLeDiff, q39, g1]
    refine call_one (S := tDelSpec) rfl _ GaL.rfl ⟨R.inn, ln, k, rfl, g3, by omega, ?_⟩
    rw [tdel_len h6.1 k, hv]
    simp -dsimp only [Vm.G, List.lookup, Nat.reduceAdd, Nat.reduceBEq, Int.reduceBNe, Int.reduceBEq, Nat.reduceLeDiff, q39]
    refine hq1 (by rw [hv]; exact fun e => by cases e) _ ⟨lw, tdel k ln, tput k [] lt, ?_, ?_, ?_, ?_, h5, ⟨h6.1.del k, h6.2.1, h6.2.2.put k []⟩, ⟨?_, h7.2.1, ?_, ?_⟩, fun p hp => ?_⟩ ?_
    · rw [List.getElem?_set_ne (by exact fun e => h5.1 e.symm)]; exact g1
    · rw [List.getElem?_set_ne (by exact fun e => h5.2.2.2.1 e.symm)]; exact g2
    · exact List.getElem?_set_self (get_lt g3)
    · rw [List.getElem?_set_ne h5.2.2.1]; exact g4
    · have : (tdel k ln).length ≤ ln.length := List.length_filter_le ..
      show _ ≤ f.n + 1; omega
    · have := tput_length k [] lt; show _ ≤ t.n + 1; omega
    · show t.n + 1 ≤ f.n + 1; omega
    · rcases hp with hp | hp | hp
      · exact h8 p (.inl (List.mem_filter.1 hp).1)
      · exact h8 p (.inr (.inl hp))
      · rcases tput_mem1 hp with rfl | hp
        · exact ⟨hk32, by simp⟩
        · exact h8 p (.inr (.inr hp))
    · exact ⟨by rw [List.length_set]; exact gs.1, fun i hl hi => by
        rw [List.getElem?_set_ne (by simp [rFoot] at hi; exact fun e => hi.1 e.symm)]; exact gs.2 i hl hi⟩
  · rw [h6.1.find] at hv
    simp -dsimp only [Vm.G, List.lookup, Nat.reduceAdd, Nat.reduceBEq, Int.reduceBNe, Int.reduceBEq, Nat.reduceLeDiff, q39]
    exact hq2 hv
def rChangesXSpec : Vm.Spec := fun args h Q => ∃ (R : RId) (f g t : Fun), args = [.ptr R.iv 0] ∧ isRefX h R f g t ∧ f.n ≤ 536870912 ∧ g.n ≤ 536870912 ∧ (∀ k, f k ≠ g k → t k ≠ none) ∧
  ∀ (p : List KV) (d : List (List UInt8)), IsPuts f g p → IsDels f g d → p.length ≤ f.n → d.length ≤ f.n → Q (.tup [.sl 2 (p.map kvAv), .sl 1 (d.map fun k => .sl 1 (k.map encB))]) h
set_option maxRecDepth 20000 in
set_option maxHeartbeats 4000000 in
theorem does_rChangesX : Does Tryz.prog 45 rChangesXSpec := by
  refine does_of_awp (good_cons does_tGet good_nil) Tryz.func45 rfl (by decide +kernel) (by decide +kernel) ?_
  rintro args h Q ⟨R, f, g, t, rfl, ⟨lw, ln, lt, h1, h2, h3, h4, h5, h6, h7, h8⟩, hn, hgn, htold, hq⟩
  refine ⟨by simp [Tryz.f45], ?_⟩
  rw [awpFunc_some (by rfl)]
  have hkl : (lt.map Prod.fst).Pairwise (fun a b => Lib.compareBytes a b < 0) := by rw [List.pairwise_map]; exact h6.2.2.1
  have hall : ∀ k, f k ≠ g k → k ∈ lt.map Prod.fst := fun k hk => by
    have h0 := htold k hk
    cases hv : t k with
    | none => exact absurd hv h0
    | some v => exact List.mem_map.2 ⟨(k, v), (h6.2.2.2 k v).2 hv, rfl⟩
  have hpi := puts_is (f := f) (g := g) hkl hall
  have hdi := dels_is (f := f) (g := g) hkl hall
  unfold tabObj at h4
  simp -dsimp only [Vm.G, List.lookup, Nat.reduceAdd, Nat.reduceBEq, Int.reduceBNe, Int.reduceBEq, Nat.reduceLeDiff, q45]
  refine awp_loop (fun m s h' => ∃ (i : Nat) (pu : List KV) (de : List (List UInt8)), i + m = lt.length ∧ h' = h ∧ pu.length ≤ i ∧ de.length ≤ i ∧ ((lt.map Prod.fst).take i).filterMap (toldP f g) = pu ∧ ((lt.map Prod.fst).take i).filterMap (toldD f g) = de ∧ s = mk [(0, .ptr R.iv 0), (4, .own true 68 2 ((pu).map kvAv)), (5, .own true 22 1 ((de).map fun k => AV.sl 1 (k.map encB))), (6, .v (.int .i64 (i : Nat)))])
    lt.length _ (le_mk _ ?_) ⟨0, [], [], by omega, rfl, by simp, by simp, rfl, rfl, rfl⟩ ?_
  · simp only [List.forall_mem_cons, List.not_mem_nil, false_imp_iff, implies_true, and_true]
    try simp -dsimp only [Vm.G, List.lookup, Nat.reduceAdd, Nat.reduceBEq, Int.reduceBNe, Int.reduceBEq, Nat.reduceLeDiff, q45]
    repeat' first | exact Fg.refl _ | exact Fg.nil _ _ _ (by decide) | refine And.intro ?_ ?_
  · rintro m s h' ⟨i, pu, de, hi, rfl, hpu, hde, hpe, hdee, rfl⟩
    simp -dsimp only [Vm.G, List.lookup, Nat.reduceAdd, Nat.reduceBEq, Int.reduceBNe, Int.reduceBEq, Nat.reduceLeDiff, q45, h1, h4]
    refine cond_intro (fun hcc => ?_) (fun hcc => ?_)
    · have hlt : i < lt.length := by have := of_decide_eq_true hcc; omega
      have hw : IntKind.i64.wrap ((i : Int) + 1) = ((i + 1 : Nat) : Int) := by rw [wrap_i64 (by omega) (by omega)]; simp
      obtain ⟨p, hp⟩ : ∃ p, lt[i] = p := ⟨_, rfl⟩
      have hlt2 : i < (lt.map Prod.fst).length := by rw [List.length_map]; exact hlt
      have hge : (lt.map Prod.fst)[i] = p.1 := by rw [List.getElem_map, hp]
      have hP : ((lt.map Prod.fst).take (i + 1)).filterMap (toldP f g) = pu ++ (toldP f g p.1).toList := by
        rw [List.take_succ_eq_append_getElem hlt2, List.filterMap_append, hpe, hge]
        congr 1
      have hD : ((lt.map Prod.fst).take (i + 1)).filterMap (toldD f g) = de ++ (toldD f g p.1).toList := by
        rw [List.take_succ_eq_append_getElem hlt2, List.filterMap_append, hdee, hge]
        congr 1
      simp -dsimp only [Vm.G, List.lookup, Nat.reduceAdd, Nat.reduceBEq, Int.reduceBNe, Int.reduceBEq, Nat.reduceLeDiff, q45, h1, h4]
      refine idx_map kvAv lt i hlt ?_
      simp only [hp, kvAv]
      rcases p with ⟨k, kv⟩
      simp only at hP hD ⊢
      simp -dsimp only [Vm.G, List.lookup, Nat.reduceAdd, Nat.reduceBEq, Int.reduceBNe, Int.reduceBEq, Nat.reduceLeDiff, q45, AV.cells, h1]
      refine call_one (S := tGetSpec) rfl _ GaL.rfl ⟨R.iw, lw, k, rfl, h2, by omega, fun p hp => by have := (h8 p (.inr (.inl hp))).2; omega, fun a hga => ?_, fun hga => ?_⟩
      · rw [h6.2.1.find] at hga
        have hgk := hga
        simp -dsimp only [Vm.G, List.lookup, Nat.reduceAdd, Nat.reduceBEq, Int.reduceBNe, Int.reduceBEq, Nat.reduceLeDiff, q45, h1]
        refine call_one (S := tGetSpec) rfl _ GaL.rfl ⟨R.inn, ln, k, rfl, h3, by omega, fun p hp => by have := (h8 p (.inl hp)).2; omega, fun b hfb => ?_, fun hfb => ?_⟩
        · rw [h6.1.find] at hfb
          have hfk := hfb
          simp -dsimp only [Vm.G, List.lookup, Nat.reduceAdd, Nat.reduceBEq, Int.reduceBNe, Int.reduceBEq, Nat.reduceLeDiff, q45]
          refine strOf_sl bt22 a rfl ?_
          simp -dsimp only [Vm.G, List.lookup, Nat.reduceAdd, Nat.reduceBEq, Int.reduceBNe, Int.reduceBEq, Nat.reduceLeDiff, q45]
          refine strOf_sl bt22 b rfl ?_
          have hd := Bool.eq_false_or_eq_true (a == b)
          rcases hd with c | c
          · have hab : a = b := by simpa using c
            simp -dsimp only [Vm.G, List.lookup, Nat.reduceAdd, Nat.reduceBEq, Int.reduceBNe, Int.reduceBEq, Nat.reduceLeDiff, q45, str_neq, toList_mk, c, Bool.not_true]
            refine kept_intro ⟨lt.length - (i + 1), by omega, _, le_mk [(0, .ptr R.iv 0), (4, .own true 68 2 ((pu).map kvAv)), (5, .own true 22 1 ((de).map fun k => AV.sl 1 (k.map encB))), (6, .v (.int .i64 (i + 1 : Nat)))] ?_, i + 1, _, _, by omega, rfl, by omega, by omega, by rw [hP]; simp [toldP, hfk, hgk, hab], by rw [hD]; simp [toldD, hfk, hgk], rfl⟩
            simp only [List.forall_mem_cons, List.not_mem_nil, false_imp_iff, implies_true, and_true, hw, List.map_append, List.map_cons, List.map_nil, kvAv]
            try simp -dsimp only [Vm.G, List.lookup, Nat.reduceAdd, Nat.reduceBEq, Int.reduceBNe, Int.reduceBEq, Nat.reduceLeDiff, q45, hw, List.map_append, List.map_cons, List.map_nil, kvAv]
            repeat' first | exact Fg.refl _ | exact Fg.nil _ _ _ (by decide) | refine And.intro ?_ ?_
          · have hab : ¬ a = b := by simpa using c
            simp -dsimp only [Vm.G, List.lookup, Nat.reduceAdd, Nat.reduceBEq, Int.reduceBNe, Int.reduceBEq, Nat.reduceLeDiff, q45, str_neq, toList_mk, c, Bool.not_false]
            refine bs_intro zr68 (by decide) (by decide) rfl rfl (by simp [solid, AV.cells]) ?_
            simp -dsimp only [Vm.G, List.lookup, Nat.reduceAdd, Nat.reduceBEq, Int.reduceBNe, Int.reduceBEq, Nat.reduceLeDiff, q45]
            refine app_sl Tryz.underlying33 (by simp [AV.cells]) (by simp only [List.length_map, List.length_cons, List.length_nil]; omega) ?_
            simp -dsimp only [Vm.G, List.lookup, Nat.reduceAdd, Nat.reduceBEq, Int.reduceBNe, Int.reduceBEq, Nat.reduceLeDiff, q45]
            refine kept_intro ⟨lt.length - (i + 1), by omega, _, le_mk [(0, .ptr R.iv 0), (4, .own true 68 2 ((pu ++ [(k, b)]).map kvAv)), (5, .own true 22 1 ((de).map fun k => AV.sl 1 (k.map encB))), (6, .v (.int .i64 (i + 1 : Nat)))] ?_, i + 1, _, _, by omega, rfl, by exact len_snoc hpu, by omega, by rw [hP]; simp [toldP, hfk, hgk, hab], by rw [hD]; simp [toldD, hfk, hgk], rfl⟩
            simp only [List.forall_mem_cons, List.not_mem_nil, false_imp_iff, implies_true, and_true, hw, List.map_append, List.map_cons, List.map_nil, kvAv]
            try simp -dsimp only [Vm.G, List.lookup, Nat.reduceAdd, Nat.reduceBEq, Int.reduceBNe, Int.reduceBEq, Nat.reduceLeDiff, q45, hw, List.map_append, List.map_cons, List.map_nil, kvAv]
            repeat' first | exact Fg.refl _ | exact Fg.nil _ _ _ (by decide) | refine And.intro ?_ ?_
        · rw [h6.1.find] at hfb
          have hfk := hfb
          simp -dsimp only [Vm.G, List.lookup, Nat.reduceAdd, Nat.reduceBEq, Int.reduceBNe, Int.reduceBEq, Nat.reduceLeDiff, q45]
          refine bs_intro zr22 (by decide) (by decide) rfl rfl (by simp [solid, AV.cells]) ?_
          simp -dsimp only [Vm.G, List.lookup, Nat.reduceAdd, Nat.reduceBEq, Int.reduceBNe, Int.reduceBEq, Nat.reduceLeDiff, q45]
          refine app_sl Tryz.underlying34 (by simp [AV.cells]) (by simp only [List.length_map, List.length_cons, List.length_nil]; omega) ?_
          simp -dsimp only [Vm.G, List.lookup, Nat.reduceAdd, Nat.reduceBEq, Int.reduceBNe, Int.reduceBEq, Nat.reduceLeDiff, q45]
          refine kept_intro ⟨lt.length - (i + 1), by omega, _, le_mk [(0, .ptr R.iv 0), (4, .own true 68 2 ((pu).map kvAv)), (5, .own true 22 1 ((de ++ [k]).map fun k => AV.sl 1 (k.map encB))), (6, .v (.int .i64 (i + 1 : Nat)))] ?_, i + 1, _, _, by omega, rfl, by omega, by exact len_snoc hde, by rw [hP]; simp [toldP, hfk, hgk], by rw [hD]; simp [toldD, hfk, hgk], rfl⟩
          simp only [List.forall_mem_cons, List.not_mem_nil, false_imp_iff, implies_true, and_true, hw, List.map_append, List.map_cons, List.map_nil, kvAv]
          try simp -dsimp only [Vm.G, List.lookup, Nat.reduceAdd, Nat.reduceBEq, Int.reduceBNe, Int.reduceBEq, Nat.reduceLeDiff, q45, hw, List.map_append, List.map_cons, List.map_nil, kvAv]
          repeat' first | exact Fg.refl _ | exact Fg.nil _ _ _ (by decide) | refine And.intro ?_ ?_
      · rw [h6.2.1.find] at hga
        have hgk := hga
        simp -dsimp only [Vm.G, List.lookup, Nat.reduceAdd, Nat.reduceBEq, Int.reduceBNe, Int.reduceBEq, Nat.reduceLeDiff, q45, h1]
        refine call_one (S := tGetSpec) rfl _ GaL.rfl ⟨R.inn, ln, k, rfl, h3, by omega, fun p hp => by have := (h8 p (.inl hp)).2; omega, fun b hfb => ?_, fun hfb => ?_⟩
        · rw [h6.1.find] at hfb
          have hfk := hfb
          simp -dsimp only [Vm.G, List.lookup, Nat.reduceAdd, Nat.reduceBEq, Int.reduceBNe, Int.reduceBEq, Nat.reduceLeDiff, q45]
          refine bs_intro zr68 (by decide) (by decide) rfl rfl (by simp [solid, AV.cells]) ?_
          simp -dsimp only [Vm.G, List.lookup, Nat.reduceAdd, Nat.reduceBEq, Int.reduceBNe, Int.reduceBEq, Nat.reduceLeDiff, q45]
          refine app_sl Tryz.underlying33 (by simp [AV.cells]) (by simp only [List.length_map, List.length_cons, List.length_nil]; omega) ?_
          simp -dsimp only [Vm.G, List.lookup, Nat.reduceAdd, Nat.reduceBEq, Int.reduceBNe, Int.reduceBEq, Nat.reduceLeDiff, q45]
          refine kept_intro ⟨lt.length - (i + 1), by omega, _, le_mk [(0, .ptr R.iv 0), (4, .own true 68 2 ((pu ++ [(k, b)]).map kvAv)), (5, .own true 22 1 ((de).map fun k => AV.sl 1 (k.map encB))), (6, .v (.int .i64 (i + 1 : Nat)))] ?_, i + 1, _, _, by omega, rfl, by exact len_snoc hpu, by omega, by rw [hP]; simp [toldP, hfk, hgk], by rw [hD]; simp [toldD, hfk, hgk], rfl⟩
          simp only [List.forall_mem_cons, List.not_mem_nil, false_imp_iff, implies_true, and_true, hw, List.map_append, List.map_cons, List.map_nil, kvAv]
          try simp -dsimp only [Vm.G, List.lookup, Nat.reduceAdd, Nat.reduceBEq, Int.reduceBNe, Int.reduceBEq, Nat.reduceLeDiff, q45, hw, List.map_append, List.map_cons, List.map_nil, kvAv]
          repeat' first | exact Fg.refl _ | exact Fg.nil _ _ _ (by decide) | refine And.intro ?_ ?_
        · rw [h6.1.find] at hfb
          have hfk := hfb
          simp -dsimp only [Vm.G, List.lookup, Nat.reduceAdd, Nat.reduceBEq, Int.reduceBNe, Int.reduceBEq, Nat.reduceLeDiff, q45]
          refine kept_intro ⟨lt.length - (i + 1), by omega, _, le_mk [(0, .ptr R.iv 0), (4, .own true 68 2 ((pu).map kvAv)), (5, .own true 22 1 ((de).map fun k => AV.sl 1 (k.map encB))), (6, .v (.int .i64 (i + 1 : Nat)))] ?_, i + 1, _, _, by omega, rfl, by omega, by omega, by rw [hP]; simp [toldP, hfk, hgk], by rw [hD]; simp [toldD, hfk, hgk], rfl⟩
          simp only [List.forall_mem_cons, List.not_mem_nil, false_imp_iff, implies_true, and_true, hw, List.map_append, List.map_cons, List.map_nil, kvAv]
          try simp -dsimp only [Vm.G, List.lookup, Nat.reduceAdd, Nat.reduceBEq, Int.reduceBNe, Int.reduceBEq, Nat.reduceLeDiff, q45, hw, List.map_append, List.map_cons, List.map_nil, kvAv]
          repeat' first | exact Fg.refl _ | exact Fg.nil _ _ _ (by decide) | refine And.intro ?_ ?_
    · have hge : ¬ i < lt.length := by have := of_decide_eq_false hcc; omega
      rw [List.take_of_length_le (by rw [List.length_map]; omega)] at hpe hdee
      rw [hpe] at hpi
      rw [hdee] at hdi
      simp -dsimp only [Vm.G, List.lookup, Nat.reduceAdd, Nat.reduceBEq, Int.reduceBNe, Int.reduceBEq, Nat.reduceLeDiff, q45]
      exact hq pu de hpi hdi (by omega) (by omega)
end Go.Proofs.Lx
/- The law TreeTells. -/
set_option linter.unusedSimpArgs false
set_option linter.unusedVariables false
namespace Go.Proofs.Lx
open Go.Vm
attribute [local irreducible] awpArr awpBin awpMake awpAppend awpCvX awpStrOf awpBinX awpSlice awpBS awpStore awpAlloc awpCopy awpIndex awpDraw awpIdxX awpFa awpField awpLookup awpUpdate awpDelete awpClear awpRange awpNext awpEntry awpBuild awpClearS awpIdxL awpTree appB awpIdxO eltA treeA
theorem bool_eql {a b : Bool} {KV : Value → Prop} : awpBin Tryz.prog .eql 4 (.v (.bool a)) (.v (.bool b)) KV = KV (.bool (a == b)) := by simp [awpBin, Tryz.underlying4]
end Go.Proofs.Lx
/- A view of no store does any calls as the document says: the law ViewLives. -/
set_option linter.unusedSimpArgs false
set_option linter.unusedVariables false
namespace Go.Proofs.Lx
open Go.Vm
attribute [local irreducible] awpArr awpBin awpMake awpAppend awpCvX awpStrOf awpBinX awpSlice awpBS awpStore awpAlloc awpCopy awpIndex awpDraw awpIdxX awpFa awpField awpLookup awpUpdate awpDelete awpClear awpRange awpNext awpEntry awpBuild awpClearS awpIdxL awpTree appB awpIdxO eltA treeA
def bsAv (k : List UInt8) : AV := .sl 1 (k.map encB)
def eqFBSpec : Vm.Spec := fun args h Q => ∃ l l' : List (List UInt8), l.length ≤ 9223372036854775807 ∧ args = [.sl 1 (l.map bsAv), .sl 1 (l'.map bsAv), .clo 27 []] ∧ Q (.v (.bool (decide (l = l')))) h
set_option maxHeartbeats 1000000 in
theorem does_eqFB : Does Tryz.prog 74 eqFBSpec := by
  refine does_of_awp (good_cons does_equal good_nil) Tryz.func74 rfl (by decide +kernel) (by decide +kernel) ?_
  rintro args h Q ⟨l, l', hl, rfl, hq⟩
  refine ⟨by simp [Tryz.f74], ?_⟩
  rw [awpFunc_some (by rfl)]
  simp -dsimp only [Vm.G, List.lookup, Nat.reduceAdd, Nat.reduceBEq, Int.reduceBNe, Int.reduceBEq, Nat.reduceLeDiff, q74]
  by_cases hlen : l.length = l'.length
  · have c1 : ((l.length : Int) != l'.length) = false := by simp [hlen]
    simp -dsimp only [Vm.G, List.lookup, Nat.reduceAdd, Nat.reduceBEq, Int.reduceBNe, Int.reduceBEq, Nat.reduceLeDiff, q74, c1]
    refine awp_loop (fun m s h' => ∃ i : Nat, i + m = l.length ∧ h' = h ∧ (∀ j (hj : j < l.length), j < i → l[j] = l'[j]'(by omega)) ∧ s = mk [(1, .sl 1 (l'.map bsAv)), (2, .clo 27 []), (15, .sl 1 (l.map bsAv)), (16, .v (.int .i64 l.length)), (17, .v (.int .i64 (i : Nat)))])
      l.length _ (le_mk _ ?_) ⟨0, by omega, rfl, fun j _ hj => by omega, rfl⟩ ?_
    · simp only [List.forall_mem_cons, List.not_mem_nil, false_imp_iff, implies_true, and_true]
      try simp -dsimp only [Vm.G, List.lookup, Nat.reduceAdd, Nat.reduceBEq, Int.reduceBNe, Int.reduceBEq, Nat.reduceLeDiff, q74]
      repeat' first | exact Fg.refl _ | exact Fg.nil _ _ _ (by decide) | refine And.intro ?_ ?_
    · rintro m s h' ⟨i, hi, rfl, hb, rfl⟩
      simp -dsimp only [Vm.G, List.lookup, Nat.reduceAdd, Nat.reduceBEq, Int.reduceBNe, Int.reduceBEq, Nat.reduceLeDiff, q74]
      refine cond_intro (fun hcc => ?_) (fun hcc => ?_)
      · have hlt : i < l.length := by have := of_decide_eq_true hcc; omega
        have hlt' : i < l'.length := by omega
        obtain ⟨x, hx⟩ : ∃ x, l[i] = x := ⟨_, rfl⟩
        obtain ⟨y, hy⟩ : ∃ y, l'[i] = y := ⟨_, rfl⟩
        have hw : IntKind.i64.wrap ((i : Int) + 1) = ((i + 1 : Nat) : Int) := by rw [wrap_i64 (by omega) (by omega)]; simp
        simp -dsimp only [Vm.G, List.lookup, Nat.reduceAdd, Nat.reduceBEq, Int.reduceBNe, Int.reduceBEq, Nat.reduceLeDiff, q74]
        refine idx_map bsAv l i hlt ?_
        simp only [hx, bsAv]
        simp -dsimp only [Vm.G, List.lookup, Nat.reduceAdd, Nat.reduceBEq, Int.reduceBNe, Int.reduceBEq, Nat.reduceLeDiff, q74, AV.cells]
        refine idx_map bsAv l' i hlt' ?_
        simp only [hy, bsAv]
        simp -dsimp only [Vm.G, List.lookup, Nat.reduceAdd, Nat.reduceBEq, Int.reduceBNe, Int.reduceBEq, Nat.reduceLeDiff, q74, AV.cells]
        refine call_one (S := equalSpec) rfl _ GaL.rfl ⟨x, y, rfl, ?_⟩
        have hd := Bool.eq_false_or_eq_true (x == y)
        rcases hd with he | he
        · have hxy : x = y := by simpa using he
          simp -dsimp only [Vm.G, List.lookup, Nat.reduceAdd, Nat.reduceBEq, Int.reduceBNe, Int.reduceBEq, Nat.reduceLeDiff, q74, he, Bool.not_true]
          refine kept_intro ⟨l.length - (i + 1), by omega, _, le_mk [(1, .sl 1 (l'.map bsAv)), (2, .clo 27 []), (15, .sl 1 (l.map bsAv)), (16, .v (.int .i64 l.length)), (17, .v (.int .i64 (i + 1 : Nat)))] ?_, i + 1, by omega, rfl, fun j hj hj2 => ?_, rfl⟩
          · simp only [List.forall_mem_cons, List.not_mem_nil, false_imp_iff, implies_true, and_true, hw, bsAv]
            try simp -dsimp only [Vm.G, List.lookup, Nat.reduceAdd, Nat.reduceBEq, Int.reduceBNe, Int.reduceBEq, Nat.reduceLeDiff, q74, hw, bsAv]
            repeat' first | exact Fg.refl _ | exact Fg.nil _ _ _ (by decide) | refine And.intro ?_ ?_
          · by_cases hji : j = i
            · subst hji; rw [hx, hy]; exact hxy
            · exact hb j hj (by omega)
        · have hne : ¬ l = l' := fun e => by
            subst e
            rw [← hx, ← hy] at he
            simp at he
          rw [decide_eq_false hne] at hq
          simp -dsimp only [Vm.G, List.lookup, Nat.reduceAdd, Nat.reduceBEq, Int.reduceBNe, Int.reduceBEq, Nat.reduceLeDiff, q74, he, Bool.not_false]
          exact hq
      · have hge : ¬ i < l.length := by have := of_decide_eq_false hcc; omega
        have he : l = l' := List.ext_getElem hlen fun j h1 h2 => hb j h1 (by omega)
        rw [decide_eq_true he] at hq
        simp -dsimp only [Vm.G, List.lookup, Nat.reduceAdd, Nat.reduceBEq, Int.reduceBNe, Int.reduceBEq, Nat.reduceLeDiff, q74]
        exact hq
  · have c1 : ((l.length : Int) != l'.length) = true := by simp; omega
    rw [decide_eq_false fun e => hlen (by rw [e])] at hq
    simp -dsimp only [Vm.G, List.lookup, Nat.reduceAdd, Nat.reduceBEq, Int.reduceBNe, Int.reduceBEq, Nat.reduceLeDiff, q74, c1]
    exact hq
def bytesLSpec : Vm.Spec := fun args h Q => ∃ l l' : List (List UInt8), l.length ≤ 9223372036854775807 ∧ args = [.sl 1 (l.map bsAv), .sl 1 (l'.map bsAv)] ∧ Q (.v (.bool (decide (l = l')))) h
theorem does_bytesL : Does Tryz.prog 46 bytesLSpec := by
  refine does_of_awp (good_cons does_eqFB good_nil) Tryz.func46 rfl (by decide +kernel) (by decide +kernel) ?_
  rintro args h Q ⟨l, l', hl, rfl, hq⟩
  refine ⟨by simp [Tryz.f46], ?_⟩
  rw [awpFunc_some (by rfl)]
  simp -dsimp only [Vm.G, List.lookup, Nat.reduceAdd, Nat.reduceBEq, Int.reduceBNe, Int.reduceBEq, Nat.reduceLeDiff, q46]
  refine call_one (S := eqFBSpec) rfl _ GaL.rfl ⟨l, l', hl, rfl, ?_⟩
  simp -dsimp only [Vm.G, List.lookup, Nat.reduceAdd, Nat.reduceBEq, Int.reduceBNe, Int.reduceBEq, Nat.reduceLeDiff, q46]
  exact hq
structure Dv where
  op : Int
  key : List UInt8
  val : List UInt8
def dvAv (k : Dv) : AV := .agg [.v (.int .i64 k.op), .sl 1 (k.key.map encB), .sl 1 (k.val.map encB)]
def playSpec : Vm.Spec := fun args h Q => ∃ (V : VId) (R : RId) (l : List Dv), l.length ≤ 9223372036854775807 ∧ (∀ k ∈ l, k.key.length ≤ 9223372036854775807 ∧ k.val.length ≤ 9223372036854775807) ∧
  args = [.ptr V.iv 0, .ptr R.iv 0, .sl 3 (l.map dvAv)] ∧ BothX h V R noF noF noF ∧ ∀ h', Q (.v (.bool true)) h'
set_option maxRecDepth 20000 in
set_option maxHeartbeats 8000000 in
theorem does_play : Does Tryz.prog 17 playSpec := by
  refine does_of_awp (good_cons does_vput (good_cons does_rPutX (good_cons does_vdel (good_cons does_rDelX (good_cons does_vget (good_cons does_rGet (good_cons does_equal (good_cons does_scan (good_cons does_rScan (good_cons does_pairs (good_cons does_commit (good_cons does_rComX (good_cons does_abort (good_cons does_rAbX (good_cons does_changesX (good_cons does_rChangesX (good_cons does_bytesL (good_cons does_sames good_nil)))))))))))))))))) Tryz.func17 rfl (by decide +kernel) (by decide +kernel) ?_
  rintro args h Q ⟨V, R0, l, hl, hkl, rfl, hB0, hq⟩
  refine ⟨by simp [Tryz.f17], ?_⟩
  rw [awpFunc_some (by rfl)]
  have hr0 : ∃ r0, r0 = R0.iv := ⟨_, rfl⟩
  rcases hr0 with ⟨r0, hr0⟩
  rw [← hr0]
  simp -dsimp only [Vm.G, List.lookup, Nat.reduceAdd, Nat.reduceBEq, Int.reduceBNe, Int.reduceBEq, Nat.reduceLeDiff, q17]
  refine awp_loop (fun m s h' => ∃ (i : Nat) (R : RId) (f g t : Fun), i + m = l.length ∧ i ≤ 60 ∧ R.iv = r0 ∧ BothX h' V R f g t ∧ f.n ≤ i ∧ g.n ≤ i ∧ s = mk [(0, .ptr V.iv 0), (1, .ptr r0 0), (18, .sl 3 (l.map dvAv)), (19, .v (.int .i64 l.length)), (20, .v (.int .i64 (i : Nat)))])
    l.length _ (le_mk _ ?_) ⟨0, R0, noF, noF, noF, by omega, by omega, hr0.symm, hB0, Nat.zero_le _, Nat.zero_le _, rfl⟩ ?_
  · simp only [List.forall_mem_cons, List.not_mem_nil, false_imp_iff, implies_true, and_true]
    try simp -dsimp only [Vm.G, List.lookup, Nat.reduceAdd, Nat.reduceBEq, Int.reduceBNe, Int.reduceBEq, Nat.reduceLeDiff, q17]
    repeat' first | exact Fg.refl _ | exact Fg.nil _ _ _ (by decide) | refine And.intro ?_ ?_
  · clear hB0 hr0
    rintro m s h' ⟨i, R, f, g, t, hi, hi60, hr, hB, hfn, hgn, rfl⟩
    simp -dsimp only [Vm.G, List.lookup, Nat.reduceAdd, Nat.reduceBEq, Int.reduceBNe, Int.reduceBEq, Nat.reduceLeDiff, q17]
    refine cond_intro (fun hcc => ?_) (fun hcc => ?_)
    · have hlt : i < l.length := by have := of_decide_eq_true hcc; omega
      have hw : IntKind.i64.wrap ((i : Int) + 1) = ((i + 1 : Nat) : Int) := by rw [wrap_i64 (by omega) (by omega)]; simp
      have hkk := hkl l[i] (List.getElem_mem hlt)
      have hxe : ∃ k, l[i] = k := ⟨_, rfl⟩
      rcases hxe with ⟨k, hkx⟩
      rw [hkx] at hkk
      simp -dsimp only [Vm.G, List.lookup, Nat.reduceAdd, Nat.reduceBEq, Int.reduceBNe, Int.reduceBEq, Nat.reduceLeDiff, q17]
      refine idx_map dvAv l i hlt ?_
      simp only [hkx, dvAv]
      simp -dsimp only [Vm.G, List.lookup, Nat.reduceAdd, Nat.reduceBEq, Int.reduceBNe, Int.reduceBEq, Nat.reduceLeDiff, q17, AV.cells]
      have h0 := Bool.eq_false_or_eq_true (decide ((i : Int) ≥ 60))
      rcases h0 with c | c
      · simp -dsimp only [Vm.G, List.lookup, Nat.reduceAdd, Nat.reduceBEq, Int.reduceBNe, Int.reduceBEq, Nat.reduceLeDiff, q17, c]
        refine call_one (S := samesSpec) rfl _ GaL.rfl ⟨V, R, f, by rw [hr], hB.both, by omega, fun h2 _ _ => ?_⟩
        simp -dsimp only [Vm.G, List.lookup, Nat.reduceAdd, Nat.reduceBEq, Int.reduceBNe, Int.reduceBEq, Nat.reduceLeDiff, q17]
        exact hq _
      · have d1 := of_decide_eq_false c
        have h0 := Bool.eq_false_or_eq_true (decide ((k.key.length : Int) > 60))
        rcases h0 with c2 | c2
        · simp -dsimp only [Vm.G, List.lookup, Nat.reduceAdd, Nat.reduceBEq, Int.reduceBNe, Int.reduceBEq, Nat.reduceLeDiff, q17, c, c2]
          refine call_one (S := samesSpec) rfl _ GaL.rfl ⟨V, R, f, by rw [hr], hB.both, by omega, fun h2 _ _ => ?_⟩
          simp -dsimp only [Vm.G, List.lookup, Nat.reduceAdd, Nat.reduceBEq, Int.reduceBNe, Int.reduceBEq, Nat.reduceLeDiff, q17]
          exact hq _
        · have h0 := Bool.eq_false_or_eq_true (decide ((k.val.length : Int) > 200))
          rcases h0 with c3 | c3
          · simp -dsimp only [Vm.G, List.lookup, Nat.reduceAdd, Nat.reduceBEq, Int.reduceBNe, Int.reduceBEq, Nat.reduceLeDiff, q17, c, c2, c3]
            refine call_one (S := samesSpec) rfl _ GaL.rfl ⟨V, R, f, by rw [hr], hB.both, by omega, fun h2 _ _ => ?_⟩
            simp -dsimp only [Vm.G, List.lookup, Nat.reduceAdd, Nat.reduceBEq, Int.reduceBNe, Int.reduceBEq, Nat.reduceLeDiff, q17]
            exact hq _
          · have d2 := of_decide_eq_false c2
            clear hcc
            simp -dsimp only [Vm.G, List.lookup, Nat.reduceAdd, Nat.reduceBEq, Int.reduceBNe, Int.reduceBEq, Nat.reduceLeDiff, q17, c, c2, c3]
            have h0 := Bool.eq_false_or_eq_true (k.op == 0)
            rcases h0 with o0 | o0
            · simp -dsimp only [Vm.G, List.lookup, Nat.reduceAdd, Nat.reduceBEq, Int.reduceBNe, Int.reduceBEq, Nat.reduceLeDiff, q17, o0]
              refine draw_cont [8] (.take 0 (.take 1 (.take 2 (.take 3 (.take 4 (.take 6 (.take 7 (.take 8 (.take 9 (.take 10 (.alt 5 (.alt 11 (.take 12 (.alt 13 (.done) .stop)) .stop) .stop))))))))))) (fun s h2 => (∃ f2 t2 : Fun, BothX h2 V R f2 g t2 ∧ f2.n ≤ i + 1) ∧ s 9 = .v (.bool true) ∧ s 0 = .ptr V.iv 0 ∧ s 1 = .ptr r0 0 ∧ s 18 = .sl 3 (l.map dvAv) ∧ s 19 = .v (.int .i64 l.length) ∧ s 20 = .v (.int .i64 i)) (by kernel_rfl) (by kernel_rfl) (by kernel_rfl) (by decide) ?_ ?_
              · clear hq
                simp -dsimp only [Vm.G, List.lookup, Nat.reduceAdd, Nat.reduceBEq, Int.reduceBNe, Int.reduceBEq, Nat.reduceLeDiff, q17]
                refine call_one (S := vputSpec) rfl _ GaL.rfl ⟨V, f, k.key, k.val, rfl, hB.1, fun hr1 h1 g1 g2 => ?_, fun hr1 => ?_⟩
                · simp -dsimp only [Vm.G, List.lookup, Nat.reduceAdd, Nat.reduceBEq, Int.reduceBNe, Int.reduceBEq, Nat.reduceLeDiff, q17]
                  refine call_one (S := rPutXSpec) rfl _ GaL.rfl ⟨R, f, g, t, k.key, k.val, by rw [hr], hB.view g2, by omega, fun _ h3 g3 g4 => ?_, fun hc => absurd (hr1.symm.trans hc) (by decide)⟩
                  simp -dsimp only [Vm.G, List.lookup, Nat.reduceAdd, Nat.reduceBEq, Int.reduceBNe, Int.reduceBEq, Nat.reduceLeDiff, q17, bool_eql, beq_self_eq_true]
                  refine ⟨⟨_, _, hB.step g1 g2 g3 g4 (told_upd hB.2.2.2.2), ?_⟩, ?_⟩
                  · show f.n + 1 ≤ i + 1
                    omega
                  · repeat' first | rfl | exact True.intro | refine And.intro ?_ ?_
                · simp -dsimp only [Vm.G, List.lookup, Nat.reduceAdd, Nat.reduceBEq, Int.reduceBNe, Int.reduceBEq, Nat.reduceLeDiff, q17]
                  refine call_one (S := rPutXSpec) rfl _ GaL.rfl ⟨R, f, g, t, k.key, k.val, by rw [hr], hB.2.2.1, by omega, fun hc => absurd (hr1.symm.trans hc) (by decide), fun _ => ?_⟩
                  simp -dsimp only [Vm.G, List.lookup, Nat.reduceAdd, Nat.reduceBEq, Int.reduceBNe, Int.reduceBEq, Nat.reduceLeDiff, q17, bool_eql, beq_self_eq_true]
                  refine ⟨⟨f, t, hB, by omega⟩, ?_⟩
                  repeat' first | rfl | exact True.intro | refine And.intro ?_ ?_
              · rintro s h2 ⟨⟨f2, t2, hB2, hf2⟩, e9, e0, e1, e18, e19, e20⟩
                have hr2 := hr
                simp -dsimp only [Vm.G, List.lookup, Nat.reduceAdd, Nat.reduceBEq, Int.reduceBNe, Int.reduceBEq, Nat.reduceLeDiff, q17, e9, e0, e1, e18, e19, e20,]
                refine call_one (S := changesXSpec) rfl _ GaL.rfl ⟨V, f2, g, rfl, hB2.1, hB2.2.1, by omega, fun p d hp hd => ?_⟩
                simp -dsimp only [Vm.G, List.lookup, Nat.reduceAdd, Nat.reduceBEq, Int.reduceBNe, Int.reduceBEq, Nat.reduceLeDiff, q17, e9, e0, e1, e18, e19, e20,]
                refine call_one (S := rChangesXSpec) rfl _ GaL.rfl ⟨R, f2, g, t2, by rw [hr2], hB2.2.2.1, by omega, by omega, hB2.2.2.2.2, fun p2 d2 hp2 hd2 hl1 hl2 => ?_⟩
                have hpe : decide (p = p2) = true := decide_eq_true (puts_same hp hp2)
                have hde : decide (d = d2) = true := decide_eq_true (dels_same hd hd2)
                have hpl : p.length ≤ 9223372036854775807 := by rw [puts_same hp hp2]; omega
                have hdl : d.length ≤ 9223372036854775807 := by rw [dels_same hd hd2]; omega
                simp -dsimp only [Vm.G, List.lookup, Nat.reduceAdd, Nat.reduceBEq, Int.reduceBNe, Int.reduceBEq, Nat.reduceLeDiff, q17, e9, e0, e1, e18, e19, e20, Bool.not_true]
                refine call_one (S := pairsSpec) rfl _ GaL.rfl ⟨p, p2, hpl, rfl, ?_⟩
                simp -dsimp only [Vm.G, List.lookup, Nat.reduceAdd, Nat.reduceBEq, Int.reduceBNe, Int.reduceBEq, Nat.reduceLeDiff, q17, e9, e0, e1, e18, e19, e20, hpe, Bool.not_true]
                refine call_one (S := bytesLSpec) rfl _ GaL.rfl ⟨d, d2, hdl, rfl, ?_⟩
                simp -dsimp only [Vm.G, List.lookup, Nat.reduceAdd, Nat.reduceBEq, Int.reduceBNe, Int.reduceBEq, Nat.reduceLeDiff, q17, e9, e0, e1, e18, e19, e20, hde, Bool.not_true]
                refine kept_intro ⟨l.length - (i + 1), by omega, _, le_mk [(0, .ptr V.iv 0), (1, .ptr r0 0), (18, .sl 3 (l.map dvAv)), (19, .v (.int .i64 l.length)), (20, .v (.int .i64 (i + 1 : Nat)))] ?_, i + 1, R, f2, g, t2, by omega, by omega, hr2, hB2, by omega, by omega, rfl⟩
                simp only [List.forall_mem_cons, List.not_mem_nil, false_imp_iff, implies_true, and_true, e9, e0, e1, e18, e19, e20, hw]
                try simp -dsimp only [Vm.G, List.lookup, Nat.reduceAdd, Nat.reduceBEq, Int.reduceBNe, Int.reduceBEq, Nat.reduceLeDiff, q17, e9, e0, e1, e18, e19, e20, hw]
                repeat' first | exact Fg.refl _ | exact Fg.nil _ _ _ (by decide) | refine And.intro ?_ ?_
            · have h0 := Bool.eq_false_or_eq_true (k.op == 1)
              rcases h0 with o1 | o1
              · simp -dsimp only [Vm.G, List.lookup, Nat.reduceAdd, Nat.reduceBEq, Int.reduceBNe, Int.reduceBEq, Nat.reduceLeDiff, q17, o0, o1]
                refine draw_cont [8] (.take 0 (.take 1 (.take 2 (.take 3 (.take 4 (.take 6 (.take 7 (.take 8 (.take 9 (.take 10 (.alt 5 (.alt 11 (.take 12 (.alt 13 (.done) .stop)) .stop) .stop))))))))))) (fun s h2 => (∃ f2 t2 : Fun, BothX h2 V R f2 g t2 ∧ f2.n ≤ i + 1) ∧ s 9 = .v (.bool true) ∧ s 0 = .ptr V.iv 0 ∧ s 1 = .ptr r0 0 ∧ s 18 = .sl 3 (l.map dvAv) ∧ s 19 = .v (.int .i64 l.length) ∧ s 20 = .v (.int .i64 i)) (by kernel_rfl) (by kernel_rfl) (by kernel_rfl) (by decide) ?_ ?_
                · clear hq
                  simp -dsimp only [Vm.G, List.lookup, Nat.reduceAdd, Nat.reduceBEq, Int.reduceBNe, Int.reduceBEq, Nat.reduceLeDiff, q17]
                  refine call_one (S := vputSpec) rfl _ GaL.rfl ⟨V, f, k.key, k.val, rfl, hB.1, fun hr1 h1 g1 g2 => ?_, fun hr1 => ?_⟩
                  · simp -dsimp only [Vm.G, List.lookup, Nat.reduceAdd, Nat.reduceBEq, Int.reduceBNe, Int.reduceBEq, Nat.reduceLeDiff, q17]
                    refine call_one (S := rPutXSpec) rfl _ GaL.rfl ⟨R, f, g, t, k.key, k.val, by rw [hr], hB.view g2, by omega, fun _ h3 g3 g4 => ?_, fun hc => absurd (hr1.symm.trans hc) (by decide)⟩
                    simp -dsimp only [Vm.G, List.lookup, Nat.reduceAdd, Nat.reduceBEq, Int.reduceBNe, Int.reduceBEq, Nat.reduceLeDiff, q17, bool_eql, beq_self_eq_true]
                    refine ⟨⟨_, _, hB.step g1 g2 g3 g4 (told_upd hB.2.2.2.2), ?_⟩, ?_⟩
                    · show f.n + 1 ≤ i + 1
                      omega
                    · repeat' first | rfl | exact True.intro | refine And.intro ?_ ?_
                  · simp -dsimp only [Vm.G, List.lookup, Nat.reduceAdd, Nat.reduceBEq, Int.reduceBNe, Int.reduceBEq, Nat.reduceLeDiff, q17]
                    refine call_one (S := rPutXSpec) rfl _ GaL.rfl ⟨R, f, g, t, k.key, k.val, by rw [hr], hB.2.2.1, by omega, fun hc => absurd (hr1.symm.trans hc) (by decide), fun _ => ?_⟩
                    simp -dsimp only [Vm.G, List.lookup, Nat.reduceAdd, Nat.reduceBEq, Int.reduceBNe, Int.reduceBEq, Nat.reduceLeDiff, q17, bool_eql, beq_self_eq_true]
                    refine ⟨⟨f, t, hB, by omega⟩, ?_⟩
                    repeat' first | rfl | exact True.intro | refine And.intro ?_ ?_
                · rintro s h2 ⟨⟨f2, t2, hB2, hf2⟩, e9, e0, e1, e18, e19, e20⟩
                  have hr2 := hr
                  simp -dsimp only [Vm.G, List.lookup, Nat.reduceAdd, Nat.reduceBEq, Int.reduceBNe, Int.reduceBEq, Nat.reduceLeDiff, q17, e9, e0, e1, e18, e19, e20,]
                  refine call_one (S := changesXSpec) rfl _ GaL.rfl ⟨V, f2, g, rfl, hB2.1, hB2.2.1, by omega, fun p d hp hd => ?_⟩
                  simp -dsimp only [Vm.G, List.lookup, Nat.reduceAdd, Nat.reduceBEq, Int.reduceBNe, Int.reduceBEq, Nat.reduceLeDiff, q17, e9, e0, e1, e18, e19, e20,]
                  refine call_one (S := rChangesXSpec) rfl _ GaL.rfl ⟨R, f2, g, t2, by rw [hr2], hB2.2.2.1, by omega, by omega, hB2.2.2.2.2, fun p2 d2 hp2 hd2 hl1 hl2 => ?_⟩
                  have hpe : decide (p = p2) = true := decide_eq_true (puts_same hp hp2)
                  have hde : decide (d = d2) = true := decide_eq_true (dels_same hd hd2)
                  have hpl : p.length ≤ 9223372036854775807 := by rw [puts_same hp hp2]; omega
                  have hdl : d.length ≤ 9223372036854775807 := by rw [dels_same hd hd2]; omega
                  simp -dsimp only [Vm.G, List.lookup, Nat.reduceAdd, Nat.reduceBEq, Int.reduceBNe, Int.reduceBEq, Nat.reduceLeDiff, q17, e9, e0, e1, e18, e19, e20, Bool.not_true]
                  refine call_one (S := pairsSpec) rfl _ GaL.rfl ⟨p, p2, hpl, rfl, ?_⟩
                  simp -dsimp only [Vm.G, List.lookup, Nat.reduceAdd, Nat.reduceBEq, Int.reduceBNe, Int.reduceBEq, Nat.reduceLeDiff, q17, e9, e0, e1, e18, e19, e20, hpe, Bool.not_true]
                  refine call_one (S := bytesLSpec) rfl _ GaL.rfl ⟨d, d2, hdl, rfl, ?_⟩
                  simp -dsimp only [Vm.G, List.lookup, Nat.reduceAdd, Nat.reduceBEq, Int.reduceBNe, Int.reduceBEq, Nat.reduceLeDiff, q17, e9, e0, e1, e18, e19, e20, hde, Bool.not_true]
                  refine kept_intro ⟨l.length - (i + 1), by omega, _, le_mk [(0, .ptr V.iv 0), (1, .ptr r0 0), (18, .sl 3 (l.map dvAv)), (19, .v (.int .i64 l.length)), (20, .v (.int .i64 (i + 1 : Nat)))] ?_, i + 1, R, f2, g, t2, by omega, by omega, hr2, hB2, by omega, by omega, rfl⟩
                  simp only [List.forall_mem_cons, List.not_mem_nil, false_imp_iff, implies_true, and_true, e9, e0, e1, e18, e19, e20, hw]
                  try simp -dsimp only [Vm.G, List.lookup, Nat.reduceAdd, Nat.reduceBEq, Int.reduceBNe, Int.reduceBEq, Nat.reduceLeDiff, q17, e9, e0, e1, e18, e19, e20, hw]
                  repeat' first | exact Fg.refl _ | exact Fg.nil _ _ _ (by decide) | refine And.intro ?_ ?_
              · have h0 := Bool.eq_false_or_eq_true (k.op == 2)
                rcases h0 with o2 | o2
                · simp -dsimp only [Vm.G, List.lookup, Nat.reduceAdd, Nat.reduceBEq, Int.reduceBNe, Int.reduceBEq, Nat.reduceLeDiff, q17, o0, o1, o2]
                  refine draw_cont [8] (.take 0 (.take 1 (.take 2 (.take 3 (.take 4 (.take 6 (.take 7 (.take 8 (.take 9 (.take 10 (.alt 5 (.alt 11 (.take 12 (.alt 13 (.done) .stop)) .stop) .stop))))))))))) (fun s h2 => (∃ f2 t2 : Fun, BothX h2 V R f2 g t2 ∧ f2.n ≤ i + 1) ∧ s 9 = .v (.bool true) ∧ s 0 = .ptr V.iv 0 ∧ s 1 = .ptr r0 0 ∧ s 18 = .sl 3 (l.map dvAv) ∧ s 19 = .v (.int .i64 l.length) ∧ s 20 = .v (.int .i64 i)) (by kernel_rfl) (by kernel_rfl) (by kernel_rfl) (by decide) ?_ ?_
                  · clear hq
                    simp -dsimp only [Vm.G, List.lookup, Nat.reduceAdd, Nat.reduceBEq, Int.reduceBNe, Int.reduceBEq, Nat.reduceLeDiff, q17]
                    refine call_one (S := vputSpec) rfl _ GaL.rfl ⟨V, f, k.key, k.val, rfl, hB.1, fun hr1 h1 g1 g2 => ?_, fun hr1 => ?_⟩
                    · simp -dsimp only [Vm.G, List.lookup, Nat.reduceAdd, Nat.reduceBEq, Int.reduceBNe, Int.reduceBEq, Nat.reduceLeDiff, q17]
                      refine call_one (S := rPutXSpec) rfl _ GaL.rfl ⟨R, f, g, t, k.key, k.val, by rw [hr], hB.view g2, by omega, fun _ h3 g3 g4 => ?_, fun hc => absurd (hr1.symm.trans hc) (by decide)⟩
                      simp -dsimp only [Vm.G, List.lookup, Nat.reduceAdd, Nat.reduceBEq, Int.reduceBNe, Int.reduceBEq, Nat.reduceLeDiff, q17, bool_eql, beq_self_eq_true]
                      refine ⟨⟨_, _, hB.step g1 g2 g3 g4 (told_upd hB.2.2.2.2), ?_⟩, ?_⟩
                      · show f.n + 1 ≤ i + 1
                        omega
                      · repeat' first | rfl | exact True.intro | refine And.intro ?_ ?_
                    · simp -dsimp only [Vm.G, List.lookup, Nat.reduceAdd, Nat.reduceBEq, Int.reduceBNe, Int.reduceBEq, Nat.reduceLeDiff, q17]
                      refine call_one (S := rPutXSpec) rfl _ GaL.rfl ⟨R, f, g, t, k.key, k.val, by rw [hr], hB.2.2.1, by omega, fun hc => absurd (hr1.symm.trans hc) (by decide), fun _ => ?_⟩
                      simp -dsimp only [Vm.G, List.lookup, Nat.reduceAdd, Nat.reduceBEq, Int.reduceBNe, Int.reduceBEq, Nat.reduceLeDiff, q17, bool_eql, beq_self_eq_true]
                      refine ⟨⟨f, t, hB, by omega⟩, ?_⟩
                      repeat' first | rfl | exact True.intro | refine And.intro ?_ ?_
                  · rintro s h2 ⟨⟨f2, t2, hB2, hf2⟩, e9, e0, e1, e18, e19, e20⟩
                    have hr2 := hr
                    simp -dsimp only [Vm.G, List.lookup, Nat.reduceAdd, Nat.reduceBEq, Int.reduceBNe, Int.reduceBEq, Nat.reduceLeDiff, q17, e9, e0, e1, e18, e19, e20,]
                    refine call_one (S := changesXSpec) rfl _ GaL.rfl ⟨V, f2, g, rfl, hB2.1, hB2.2.1, by omega, fun p d hp hd => ?_⟩
                    simp -dsimp only [Vm.G, List.lookup, Nat.reduceAdd, Nat.reduceBEq, Int.reduceBNe, Int.reduceBEq, Nat.reduceLeDiff, q17, e9, e0, e1, e18, e19, e20,]
                    refine call_one (S := rChangesXSpec) rfl _ GaL.rfl ⟨R, f2, g, t2, by rw [hr2], hB2.2.2.1, by omega, by omega, hB2.2.2.2.2, fun p2 d2 hp2 hd2 hl1 hl2 => ?_⟩
                    have hpe : decide (p = p2) = true := decide_eq_true (puts_same hp hp2)
                    have hde : decide (d = d2) = true := decide_eq_true (dels_same hd hd2)
                    have hpl : p.length ≤ 9223372036854775807 := by rw [puts_same hp hp2]; omega
                    have hdl : d.length ≤ 9223372036854775807 := by rw [dels_same hd hd2]; omega
                    simp -dsimp only [Vm.G, List.lookup, Nat.reduceAdd, Nat.reduceBEq, Int.reduceBNe, Int.reduceBEq, Nat.reduceLeDiff, q17, e9, e0, e1, e18, e19, e20, Bool.not_true]
                    refine call_one (S := pairsSpec) rfl _ GaL.rfl ⟨p, p2, hpl, rfl, ?_⟩
                    simp -dsimp only [Vm.G, List.lookup, Nat.reduceAdd, Nat.reduceBEq, Int.reduceBNe, Int.reduceBEq, Nat.reduceLeDiff, q17, e9, e0, e1, e18, e19, e20, hpe, Bool.not_true]
                    refine call_one (S := bytesLSpec) rfl _ GaL.rfl ⟨d, d2, hdl, rfl, ?_⟩
                    simp -dsimp only [Vm.G, List.lookup, Nat.reduceAdd, Nat.reduceBEq, Int.reduceBNe, Int.reduceBEq, Nat.reduceLeDiff, q17, e9, e0, e1, e18, e19, e20, hde, Bool.not_true]
                    refine kept_intro ⟨l.length - (i + 1), by omega, _, le_mk [(0, .ptr V.iv 0), (1, .ptr r0 0), (18, .sl 3 (l.map dvAv)), (19, .v (.int .i64 l.length)), (20, .v (.int .i64 (i + 1 : Nat)))] ?_, i + 1, R, f2, g, t2, by omega, by omega, hr2, hB2, by omega, by omega, rfl⟩
                    simp only [List.forall_mem_cons, List.not_mem_nil, false_imp_iff, implies_true, and_true, e9, e0, e1, e18, e19, e20, hw]
                    try simp -dsimp only [Vm.G, List.lookup, Nat.reduceAdd, Nat.reduceBEq, Int.reduceBNe, Int.reduceBEq, Nat.reduceLeDiff, q17, e9, e0, e1, e18, e19, e20, hw]
                    repeat' first | exact Fg.refl _ | exact Fg.nil _ _ _ (by decide) | refine And.intro ?_ ?_
                · have h0 := Bool.eq_false_or_eq_true (k.op == 3)
                  rcases h0 with o3 | o3
                  · simp -dsimp only [Vm.G, List.lookup, Nat.reduceAdd, Nat.reduceBEq, Int.reduceBNe, Int.reduceBEq, Nat.reduceLeDiff, q17, o0, o1, o2, o3]
                    refine draw_cont [8] (.take 0 (.take 1 (.take 2 (.take 4 (.take 5 (.take 6 (.alt 3 (.alt 7 (.take 8 (.alt 9 (.done) .stop)) .stop) .stop))))))) (fun s h2 => (∃ f2 t2 : Fun, BothX h2 V R f2 g t2 ∧ f2.n ≤ i + 1) ∧ s 9 = .v (.bool true) ∧ s 0 = .ptr V.iv 0 ∧ s 1 = .ptr r0 0 ∧ s 18 = .sl 3 (l.map dvAv) ∧ s 19 = .v (.int .i64 l.length) ∧ s 20 = .v (.int .i64 i)) (by kernel_rfl) (by kernel_rfl) (by kernel_rfl) (by decide) ?_ ?_
                    · clear hq
                      simp -dsimp only [Vm.G, List.lookup, Nat.reduceAdd, Nat.reduceBEq, Int.reduceBNe, Int.reduceBEq, Nat.reduceLeDiff, q17]
                      refine call_one (S := vdelSpec) rfl _ GaL.rfl ⟨V, f, k.key, rfl, hB.1, fun hr1 => ?_, fun hr1 h1 g1 g2 => ?_⟩
                      · simp -dsimp only [Vm.G, List.lookup, Nat.reduceAdd, Nat.reduceBEq, Int.reduceBNe, Int.reduceBEq, Nat.reduceLeDiff, q17]
                        refine call_one (S := rDelXSpec) rfl _ GaL.rfl ⟨R, f, g, t, k.key, by rw [hr], hB.2.2.1, by omega, fun hc => absurd hr1 hc, fun _ => ?_⟩
                        simp -dsimp only [Vm.G, List.lookup, Nat.reduceAdd, Nat.reduceBEq, Int.reduceBNe, Int.reduceBEq, Nat.reduceLeDiff, q17, bool_eql, beq_self_eq_true]
                        refine ⟨⟨f, t, hB, by omega⟩, ?_⟩
                        repeat' first | rfl | exact True.intro | refine And.intro ?_ ?_
                      · simp -dsimp only [Vm.G, List.lookup, Nat.reduceAdd, Nat.reduceBEq, Int.reduceBNe, Int.reduceBEq, Nat.reduceLeDiff, q17]
                        refine call_one (S := rDelXSpec) rfl _ GaL.rfl ⟨R, f, g, t, k.key, by rw [hr], hB.view g2, by omega, fun _ h3 g3 g4 => ?_, fun hc => absurd hc hr1⟩
                        simp -dsimp only [Vm.G, List.lookup, Nat.reduceAdd, Nat.reduceBEq, Int.reduceBNe, Int.reduceBEq, Nat.reduceLeDiff, q17, bool_eql, beq_self_eq_true]
                        refine ⟨⟨_, _, hB.step g1 g2 g3 g4 (told_upd hB.2.2.2.2), ?_⟩, ?_⟩
                        · show f.n + 1 ≤ i + 1
                          omega
                        · repeat' first | rfl | exact True.intro | refine And.intro ?_ ?_
                    · rintro s h2 ⟨⟨f2, t2, hB2, hf2⟩, e9, e0, e1, e18, e19, e20⟩
                      have hr2 := hr
                      simp -dsimp only [Vm.G, List.lookup, Nat.reduceAdd, Nat.reduceBEq, Int.reduceBNe, Int.reduceBEq, Nat.reduceLeDiff, q17, e9, e0, e1, e18, e19, e20,]
                      refine call_one (S := changesXSpec) rfl _ GaL.rfl ⟨V, f2, g, rfl, hB2.1, hB2.2.1, by omega, fun p d hp hd => ?_⟩
                      simp -dsimp only [Vm.G, List.lookup, Nat.reduceAdd, Nat.reduceBEq, Int.reduceBNe, Int.reduceBEq, Nat.reduceLeDiff, q17, e9, e0, e1, e18, e19, e20,]
                      refine call_one (S := rChangesXSpec) rfl _ GaL.rfl ⟨R, f2, g, t2, by rw [hr2], hB2.2.2.1, by omega, by omega, hB2.2.2.2.2, fun p2 d2 hp2 hd2 hl1 hl2 => ?_⟩
                      have hpe : decide (p = p2) = true := decide_eq_true (puts_same hp hp2)
                      have hde : decide (d = d2) = true := decide_eq_true (dels_same hd hd2)
                      have hpl : p.length ≤ 9223372036854775807 := by rw [puts_same hp hp2]; omega
                      have hdl : d.length ≤ 9223372036854775807 := by rw [dels_same hd hd2]; omega
                      simp -dsimp only [Vm.G, List.lookup, Nat.reduceAdd, Nat.reduceBEq, Int.reduceBNe, Int.reduceBEq, Nat.reduceLeDiff, q17, e9, e0, e1, e18, e19, e20, Bool.not_true]
                      refine call_one (S := pairsSpec) rfl _ GaL.rfl ⟨p, p2, hpl, rfl, ?_⟩
                      simp -dsimp only [Vm.G, List.lookup, Nat.reduceAdd, Nat.reduceBEq, Int.reduceBNe, Int.reduceBEq, Nat.reduceLeDiff, q17, e9, e0, e1, e18, e19, e20, hpe, Bool.not_true]
                      refine call_one (S := bytesLSpec) rfl _ GaL.rfl ⟨d, d2, hdl, rfl, ?_⟩
                      simp -dsimp only [Vm.G, List.lookup, Nat.reduceAdd, Nat.reduceBEq, Int.reduceBNe, Int.reduceBEq, Nat.reduceLeDiff, q17, e9, e0, e1, e18, e19, e20, hde, Bool.not_true]
                      refine kept_intro ⟨l.length - (i + 1), by omega, _, le_mk [(0, .ptr V.iv 0), (1, .ptr r0 0), (18, .sl 3 (l.map dvAv)), (19, .v (.int .i64 l.length)), (20, .v (.int .i64 (i + 1 : Nat)))] ?_, i + 1, R, f2, g, t2, by omega, by omega, hr2, hB2, by omega, by omega, rfl⟩
                      simp only [List.forall_mem_cons, List.not_mem_nil, false_imp_iff, implies_true, and_true, e9, e0, e1, e18, e19, e20, hw]
                      try simp -dsimp only [Vm.G, List.lookup, Nat.reduceAdd, Nat.reduceBEq, Int.reduceBNe, Int.reduceBEq, Nat.reduceLeDiff, q17, e9, e0, e1, e18, e19, e20, hw]
                      repeat' first | exact Fg.refl _ | exact Fg.nil _ _ _ (by decide) | refine And.intro ?_ ?_
                  · have h0 := Bool.eq_false_or_eq_true (k.op == 4)
                    rcases h0 with o4 | o4
                    · have hB2 := hB
                      have hr2 := hr
                      simp -dsimp only [Vm.G, List.lookup, Nat.reduceAdd, Nat.reduceBEq, Int.reduceBNe, Int.reduceBEq, Nat.reduceLeDiff, q17, o0, o1, o2, o3, o4]
                      refine call_one (S := vgetSpec) rfl _ GaL.rfl ⟨V, f, k.key, rfl, hB.1, fun x a hx hf => ?_, fun x hx hf => ?_⟩
                      · have hg := hx.ga
                        rcases hx with rfl | ⟨hl0, rfl⟩
                        · simp -dsimp only [Vm.G, List.lookup, Nat.reduceAdd, Nat.reduceBEq, Int.reduceBNe, Int.reduceBEq, Nat.reduceLeDiff, q17]
                          refine call_one (S := rGetSpec) rfl _ GaL.rfl ⟨R, f, k.key, by rw [hr], hB.2.2.1.ref, by omega, fun b hfb => ?_, fun hfb => ?_⟩
                          · have hab : (a == b) = true := by rw [hf] at hfb; cases hfb; simp
                            simp -dsimp only [Vm.G, List.lookup, Nat.reduceAdd, Nat.reduceBEq, Int.reduceBNe, Int.reduceBEq, Nat.reduceLeDiff, q17, bool_eql, beq_self_eq_true]
                            refine call_one (S := equalSpec) rfl _ (GaL.cons hg (GaL.cons (.refl _) .nil)) ⟨a, b, rfl, ?_⟩
                            rw [hab]
                            simp -dsimp only [Vm.G, List.lookup, Nat.reduceAdd, Nat.reduceBEq, Int.reduceBNe, Int.reduceBEq, Nat.reduceLeDiff, q17]
                            refine call_one (S := changesXSpec) rfl _ GaL.rfl ⟨V, f, g, rfl, hB2.1, hB2.2.1, by omega, fun p d hp hd => ?_⟩
                            simp -dsimp only [Vm.G, List.lookup, Nat.reduceAdd, Nat.reduceBEq, Int.reduceBNe, Int.reduceBEq, Nat.reduceLeDiff, q17]
                            refine call_one (S := rChangesXSpec) rfl _ GaL.rfl ⟨R, f, g, t, by rw [hr2], hB2.2.2.1, by omega, by omega, hB2.2.2.2.2, fun p2 d2 hp2 hd2 hl1 hl2 => ?_⟩
                            have hpe : decide (p = p2) = true := decide_eq_true (puts_same hp hp2)
                            have hde : decide (d = d2) = true := decide_eq_true (dels_same hd hd2)
                            have hpl : p.length ≤ 9223372036854775807 := by rw [puts_same hp hp2]; omega
                            have hdl : d.length ≤ 9223372036854775807 := by rw [dels_same hd hd2]; omega
                            simp -dsimp only [Vm.G, List.lookup, Nat.reduceAdd, Nat.reduceBEq, Int.reduceBNe, Int.reduceBEq, Nat.reduceLeDiff, q17,  Bool.not_true]
                            refine call_one (S := pairsSpec) rfl _ GaL.rfl ⟨p, p2, hpl, rfl, ?_⟩
                            simp -dsimp only [Vm.G, List.lookup, Nat.reduceAdd, Nat.reduceBEq, Int.reduceBNe, Int.reduceBEq, Nat.reduceLeDiff, q17,  hpe, Bool.not_true]
                            refine call_one (S := bytesLSpec) rfl _ GaL.rfl ⟨d, d2, hdl, rfl, ?_⟩
                            simp -dsimp only [Vm.G, List.lookup, Nat.reduceAdd, Nat.reduceBEq, Int.reduceBNe, Int.reduceBEq, Nat.reduceLeDiff, q17,  hde, Bool.not_true]
                            refine kept_intro ⟨l.length - (i + 1), by omega, _, le_mk [(0, .ptr V.iv 0), (1, .ptr r0 0), (18, .sl 3 (l.map dvAv)), (19, .v (.int .i64 l.length)), (20, .v (.int .i64 (i + 1 : Nat)))] ?_, i + 1, R, f, g, t, by omega, by omega, hr2, hB2, by omega, by omega, rfl⟩
                            simp only [List.forall_mem_cons, List.not_mem_nil, false_imp_iff, implies_true, and_true,  hw]
                            try simp -dsimp only [Vm.G, List.lookup, Nat.reduceAdd, Nat.reduceBEq, Int.reduceBNe, Int.reduceBEq, Nat.reduceLeDiff, q17,  hw]
                            repeat' first | exact Fg.refl _ | exact Fg.nil _ _ _ (by decide) | refine And.intro ?_ ?_
                          · rw [hf] at hfb; cases hfb
                        · simp -dsimp only [Vm.G, List.lookup, Nat.reduceAdd, Nat.reduceBEq, Int.reduceBNe, Int.reduceBEq, Nat.reduceLeDiff, q17]
                          refine call_one (S := rGetSpec) rfl _ GaL.rfl ⟨R, f, k.key, by rw [hr], hB.2.2.1.ref, by omega, fun b hfb => ?_, fun hfb => ?_⟩
                          · have hab : (a == b) = true := by rw [hf] at hfb; cases hfb; simp
                            simp -dsimp only [Vm.G, List.lookup, Nat.reduceAdd, Nat.reduceBEq, Int.reduceBNe, Int.reduceBEq, Nat.reduceLeDiff, q17, bool_eql, beq_self_eq_true]
                            refine call_one (S := equalSpec) rfl _ (GaL.cons hg (GaL.cons (.refl _) .nil)) ⟨a, b, rfl, ?_⟩
                            rw [hab]
                            simp -dsimp only [Vm.G, List.lookup, Nat.reduceAdd, Nat.reduceBEq, Int.reduceBNe, Int.reduceBEq, Nat.reduceLeDiff, q17]
                            refine call_one (S := changesXSpec) rfl _ GaL.rfl ⟨V, f, g, rfl, hB2.1, hB2.2.1, by omega, fun p d hp hd => ?_⟩
                            simp -dsimp only [Vm.G, List.lookup, Nat.reduceAdd, Nat.reduceBEq, Int.reduceBNe, Int.reduceBEq, Nat.reduceLeDiff, q17]
                            refine call_one (S := rChangesXSpec) rfl _ GaL.rfl ⟨R, f, g, t, by rw [hr2], hB2.2.2.1, by omega, by omega, hB2.2.2.2.2, fun p2 d2 hp2 hd2 hl1 hl2 => ?_⟩
                            have hpe : decide (p = p2) = true := decide_eq_true (puts_same hp hp2)
                            have hde : decide (d = d2) = true := decide_eq_true (dels_same hd hd2)
                            have hpl : p.length ≤ 9223372036854775807 := by rw [puts_same hp hp2]; omega
                            have hdl : d.length ≤ 9223372036854775807 := by rw [dels_same hd hd2]; omega
                            simp -dsimp only [Vm.G, List.lookup, Nat.reduceAdd, Nat.reduceBEq, Int.reduceBNe, Int.reduceBEq, Nat.reduceLeDiff, q17,  Bool.not_true]
                            refine call_one (S := pairsSpec) rfl _ GaL.rfl ⟨p, p2, hpl, rfl, ?_⟩
                            simp -dsimp only [Vm.G, List.lookup, Nat.reduceAdd, Nat.reduceBEq, Int.reduceBNe, Int.reduceBEq, Nat.reduceLeDiff, q17,  hpe, Bool.not_true]
                            refine call_one (S := bytesLSpec) rfl _ GaL.rfl ⟨d, d2, hdl, rfl, ?_⟩
                            simp -dsimp only [Vm.G, List.lookup, Nat.reduceAdd, Nat.reduceBEq, Int.reduceBNe, Int.reduceBEq, Nat.reduceLeDiff, q17,  hde, Bool.not_true]
                            refine kept_intro ⟨l.length - (i + 1), by omega, _, le_mk [(0, .ptr V.iv 0), (1, .ptr r0 0), (18, .sl 3 (l.map dvAv)), (19, .v (.int .i64 l.length)), (20, .v (.int .i64 (i + 1 : Nat)))] ?_, i + 1, R, f, g, t, by omega, by omega, hr2, hB2, by omega, by omega, rfl⟩
                            simp only [List.forall_mem_cons, List.not_mem_nil, false_imp_iff, implies_true, and_true,  hw]
                            try simp -dsimp only [Vm.G, List.lookup, Nat.reduceAdd, Nat.reduceBEq, Int.reduceBNe, Int.reduceBEq, Nat.reduceLeDiff, q17,  hw]
                            repeat' first | exact Fg.refl _ | exact Fg.nil _ _ _ (by decide) | refine And.intro ?_ ?_
                          · rw [hf] at hfb; cases hfb
                      · have hg := hx.ga
                        rcases hx with rfl | ⟨hl0, rfl⟩
                        · simp -dsimp only [Vm.G, List.lookup, Nat.reduceAdd, Nat.reduceBEq, Int.reduceBNe, Int.reduceBEq, Nat.reduceLeDiff, q17]
                          refine call_one (S := rGetSpec) rfl _ GaL.rfl ⟨R, f, k.key, by rw [hr], hB.2.2.1.ref, by omega, fun b hfb => ?_, fun hfb => ?_⟩
                          · rw [hf] at hfb; cases hfb
                          · simp -dsimp only [Vm.G, List.lookup, Nat.reduceAdd, Nat.reduceBEq, Int.reduceBNe, Int.reduceBEq, Nat.reduceLeDiff, q17, bool_eql, beq_self_eq_true]
                            refine call_one (S := equalSpec) rfl _ (GaL.cons hg (GaL.cons (.refl _) .nil)) ⟨[], [], rfl, ?_⟩
                            simp -dsimp only [Vm.G, List.lookup, Nat.reduceAdd, Nat.reduceBEq, Int.reduceBNe, Int.reduceBEq, Nat.reduceLeDiff, q17]
                            refine call_one (S := changesXSpec) rfl _ GaL.rfl ⟨V, f, g, rfl, hB2.1, hB2.2.1, by omega, fun p d hp hd => ?_⟩
                            simp -dsimp only [Vm.G, List.lookup, Nat.reduceAdd, Nat.reduceBEq, Int.reduceBNe, Int.reduceBEq, Nat.reduceLeDiff, q17]
                            refine call_one (S := rChangesXSpec) rfl _ GaL.rfl ⟨R, f, g, t, by rw [hr2], hB2.2.2.1, by omega, by omega, hB2.2.2.2.2, fun p2 d2 hp2 hd2 hl1 hl2 => ?_⟩
                            have hpe : decide (p = p2) = true := decide_eq_true (puts_same hp hp2)
                            have hde : decide (d = d2) = true := decide_eq_true (dels_same hd hd2)
                            have hpl : p.length ≤ 9223372036854775807 := by rw [puts_same hp hp2]; omega
                            have hdl : d.length ≤ 9223372036854775807 := by rw [dels_same hd hd2]; omega
                            simp -dsimp only [Vm.G, List.lookup, Nat.reduceAdd, Nat.reduceBEq, Int.reduceBNe, Int.reduceBEq, Nat.reduceLeDiff, q17,  Bool.not_true]
                            refine call_one (S := pairsSpec) rfl _ GaL.rfl ⟨p, p2, hpl, rfl, ?_⟩
                            simp -dsimp only [Vm.G, List.lookup, Nat.reduceAdd, Nat.reduceBEq, Int.reduceBNe, Int.reduceBEq, Nat.reduceLeDiff, q17,  hpe, Bool.not_true]
                            refine call_one (S := bytesLSpec) rfl _ GaL.rfl ⟨d, d2, hdl, rfl, ?_⟩
                            simp -dsimp only [Vm.G, List.lookup, Nat.reduceAdd, Nat.reduceBEq, Int.reduceBNe, Int.reduceBEq, Nat.reduceLeDiff, q17,  hde, Bool.not_true]
                            refine kept_intro ⟨l.length - (i + 1), by omega, _, le_mk [(0, .ptr V.iv 0), (1, .ptr r0 0), (18, .sl 3 (l.map dvAv)), (19, .v (.int .i64 l.length)), (20, .v (.int .i64 (i + 1 : Nat)))] ?_, i + 1, R, f, g, t, by omega, by omega, hr2, hB2, by omega, by omega, rfl⟩
                            simp only [List.forall_mem_cons, List.not_mem_nil, false_imp_iff, implies_true, and_true,  hw]
                            try simp -dsimp only [Vm.G, List.lookup, Nat.reduceAdd, Nat.reduceBEq, Int.reduceBNe, Int.reduceBEq, Nat.reduceLeDiff, q17,  hw]
                            repeat' first | exact Fg.refl _ | exact Fg.nil _ _ _ (by decide) | refine And.intro ?_ ?_
                        · simp -dsimp only [Vm.G, List.lookup, Nat.reduceAdd, Nat.reduceBEq, Int.reduceBNe, Int.reduceBEq, Nat.reduceLeDiff, q17]
                          refine call_one (S := rGetSpec) rfl _ GaL.rfl ⟨R, f, k.key, by rw [hr], hB.2.2.1.ref, by omega, fun b hfb => ?_, fun hfb => ?_⟩
                          · rw [hf] at hfb; cases hfb
                          · simp -dsimp only [Vm.G, List.lookup, Nat.reduceAdd, Nat.reduceBEq, Int.reduceBNe, Int.reduceBEq, Nat.reduceLeDiff, q17, bool_eql, beq_self_eq_true]
                            refine call_one (S := equalSpec) rfl _ (GaL.cons hg (GaL.cons (.refl _) .nil)) ⟨[], [], rfl, ?_⟩
                            simp -dsimp only [Vm.G, List.lookup, Nat.reduceAdd, Nat.reduceBEq, Int.reduceBNe, Int.reduceBEq, Nat.reduceLeDiff, q17]
                            refine call_one (S := changesXSpec) rfl _ GaL.rfl ⟨V, f, g, rfl, hB2.1, hB2.2.1, by omega, fun p d hp hd => ?_⟩
                            simp -dsimp only [Vm.G, List.lookup, Nat.reduceAdd, Nat.reduceBEq, Int.reduceBNe, Int.reduceBEq, Nat.reduceLeDiff, q17]
                            refine call_one (S := rChangesXSpec) rfl _ GaL.rfl ⟨R, f, g, t, by rw [hr2], hB2.2.2.1, by omega, by omega, hB2.2.2.2.2, fun p2 d2 hp2 hd2 hl1 hl2 => ?_⟩
                            have hpe : decide (p = p2) = true := decide_eq_true (puts_same hp hp2)
                            have hde : decide (d = d2) = true := decide_eq_true (dels_same hd hd2)
                            have hpl : p.length ≤ 9223372036854775807 := by rw [puts_same hp hp2]; omega
                            have hdl : d.length ≤ 9223372036854775807 := by rw [dels_same hd hd2]; omega
                            simp -dsimp only [Vm.G, List.lookup, Nat.reduceAdd, Nat.reduceBEq, Int.reduceBNe, Int.reduceBEq, Nat.reduceLeDiff, q17,  Bool.not_true]
                            refine call_one (S := pairsSpec) rfl _ GaL.rfl ⟨p, p2, hpl, rfl, ?_⟩
                            simp -dsimp only [Vm.G, List.lookup, Nat.reduceAdd, Nat.reduceBEq, Int.reduceBNe, Int.reduceBEq, Nat.reduceLeDiff, q17,  hpe, Bool.not_true]
                            refine call_one (S := bytesLSpec) rfl _ GaL.rfl ⟨d, d2, hdl, rfl, ?_⟩
                            simp -dsimp only [Vm.G, List.lookup, Nat.reduceAdd, Nat.reduceBEq, Int.reduceBNe, Int.reduceBEq, Nat.reduceLeDiff, q17,  hde, Bool.not_true]
                            refine kept_intro ⟨l.length - (i + 1), by omega, _, le_mk [(0, .ptr V.iv 0), (1, .ptr r0 0), (18, .sl 3 (l.map dvAv)), (19, .v (.int .i64 l.length)), (20, .v (.int .i64 (i + 1 : Nat)))] ?_, i + 1, R, f, g, t, by omega, by omega, hr2, hB2, by omega, by omega, rfl⟩
                            simp only [List.forall_mem_cons, List.not_mem_nil, false_imp_iff, implies_true, and_true,  hw]
                            try simp -dsimp only [Vm.G, List.lookup, Nat.reduceAdd, Nat.reduceBEq, Int.reduceBNe, Int.reduceBEq, Nat.reduceLeDiff, q17,  hw]
                            repeat' first | exact Fg.refl _ | exact Fg.nil _ _ _ (by decide) | refine And.intro ?_ ?_
                    · have h0 := Bool.eq_false_or_eq_true (k.op == 5)
                      rcases h0 with o5 | o5
                      · simp -dsimp only [Vm.G, List.lookup, Nat.reduceAdd, Nat.reduceBEq, Int.reduceBNe, Int.reduceBEq, Nat.reduceLeDiff, q17, o0, o1, o2, o3, o4, o5]
                        refine draw_cont [8] (.take 0 (.take 1 (.take 2 (.take 4 (.take 5 (.take 6 (.alt 3 (.alt 7 (.alt 8 (.alt 9 (.done) .stop) .stop) .stop) .stop))))))) (fun s h2 => BothX h2 V R f g t ∧ s 9 = .v (.bool true) ∧ s 0 = .ptr V.iv 0 ∧ s 1 = .ptr r0 0 ∧ s 18 = .sl 3 (l.map dvAv) ∧ s 19 = .v (.int .i64 l.length) ∧ s 20 = .v (.int .i64 i)) (by kernel_rfl) (by kernel_rfl) (by kernel_rfl) (by decide) ?_ ?_
                        · clear hq
                          simp -dsimp only [Vm.G, List.lookup, Nat.reduceAdd, Nat.reduceBEq, Int.reduceBNe, Int.reduceBEq, Nat.reduceLeDiff, q17]
                          refine call_one (S := scanSpec) rfl _ GaL.rfl ⟨V, f, k.key, rfl, by omega, hB.1, by omega, fun q h1 hsc hln hV1 hs1 => ?_⟩
                          have hB1 := hB.quiet hV1 hs1
                          simp -dsimp only [Vm.G, List.lookup, Nat.reduceAdd, Nat.reduceBEq, Int.reduceBNe, Int.reduceBEq, Nat.reduceLeDiff, q17]
                          refine call_one (S := rScanSpec) rfl _ GaL.rfl ⟨R, f, k.key, by rw [hr], by omega, hB1.2.2.1.ref, by omega, fun q' hsc' hln' => ?_⟩
                          have hqq : decide (q = q') = true := decide_eq_true (hsc.same hsc')
                          simp -dsimp only [Vm.G, List.lookup, Nat.reduceAdd, Nat.reduceBEq, Int.reduceBNe, Int.reduceBEq, Nat.reduceLeDiff, q17]
                          refine call_one (S := pairsSpec) rfl _ GaL.rfl ⟨q, q', by omega, rfl, ?_⟩
                          simp -dsimp only [Vm.G, List.lookup, Nat.reduceAdd, Nat.reduceBEq, Int.reduceBNe, Int.reduceBEq, Nat.reduceLeDiff, q17, hqq]
                          refine ⟨hB1, ?_⟩
                          repeat' first | rfl | exact True.intro | refine And.intro ?_ ?_
                        · rintro s h2 ⟨hB2, e9, e0, e1, e18, e19, e20⟩
                          have hr2 := hr
                          simp -dsimp only [Vm.G, List.lookup, Nat.reduceAdd, Nat.reduceBEq, Int.reduceBNe, Int.reduceBEq, Nat.reduceLeDiff, q17, e9, e0, e1, e18, e19, e20,]
                          refine call_one (S := changesXSpec) rfl _ GaL.rfl ⟨V, f, g, rfl, hB2.1, hB2.2.1, by omega, fun p d hp hd => ?_⟩
                          simp -dsimp only [Vm.G, List.lookup, Nat.reduceAdd, Nat.reduceBEq, Int.reduceBNe, Int.reduceBEq, Nat.reduceLeDiff, q17, e9, e0, e1, e18, e19, e20,]
                          refine call_one (S := rChangesXSpec) rfl _ GaL.rfl ⟨R, f, g, t, by rw [hr2], hB2.2.2.1, by omega, by omega, hB2.2.2.2.2, fun p2 d2 hp2 hd2 hl1 hl2 => ?_⟩
                          have hpe : decide (p = p2) = true := decide_eq_true (puts_same hp hp2)
                          have hde : decide (d = d2) = true := decide_eq_true (dels_same hd hd2)
                          have hpl : p.length ≤ 9223372036854775807 := by rw [puts_same hp hp2]; omega
                          have hdl : d.length ≤ 9223372036854775807 := by rw [dels_same hd hd2]; omega
                          simp -dsimp only [Vm.G, List.lookup, Nat.reduceAdd, Nat.reduceBEq, Int.reduceBNe, Int.reduceBEq, Nat.reduceLeDiff, q17, e9, e0, e1, e18, e19, e20, Bool.not_true]
                          refine call_one (S := pairsSpec) rfl _ GaL.rfl ⟨p, p2, hpl, rfl, ?_⟩
                          simp -dsimp only [Vm.G, List.lookup, Nat.reduceAdd, Nat.reduceBEq, Int.reduceBNe, Int.reduceBEq, Nat.reduceLeDiff, q17, e9, e0, e1, e18, e19, e20, hpe, Bool.not_true]
                          refine call_one (S := bytesLSpec) rfl _ GaL.rfl ⟨d, d2, hdl, rfl, ?_⟩
                          simp -dsimp only [Vm.G, List.lookup, Nat.reduceAdd, Nat.reduceBEq, Int.reduceBNe, Int.reduceBEq, Nat.reduceLeDiff, q17, e9, e0, e1, e18, e19, e20, hde, Bool.not_true]
                          refine kept_intro ⟨l.length - (i + 1), by omega, _, le_mk [(0, .ptr V.iv 0), (1, .ptr r0 0), (18, .sl 3 (l.map dvAv)), (19, .v (.int .i64 l.length)), (20, .v (.int .i64 (i + 1 : Nat)))] ?_, i + 1, R, f, g, t, by omega, by omega, hr2, hB2, by omega, by omega, rfl⟩
                          simp only [List.forall_mem_cons, List.not_mem_nil, false_imp_iff, implies_true, and_true, e9, e0, e1, e18, e19, e20, hw]
                          try simp -dsimp only [Vm.G, List.lookup, Nat.reduceAdd, Nat.reduceBEq, Int.reduceBNe, Int.reduceBEq, Nat.reduceLeDiff, q17, e9, e0, e1, e18, e19, e20, hw]
                          repeat' first | exact Fg.refl _ | exact Fg.nil _ _ _ (by decide) | refine And.intro ?_ ?_
                      · have h0 := Bool.eq_false_or_eq_true (k.op == 6)
                        rcases h0 with o6 | o6
                        · simp -dsimp only [Vm.G, List.lookup, Nat.reduceAdd, Nat.reduceBEq, Int.reduceBNe, Int.reduceBEq, Nat.reduceLeDiff, q17, o0, o1, o2, o3, o4, o5, o6]
                          refine call_one (S := commitSpec) rfl _ GaL.rfl ⟨V, f, rfl, hB.1, by omega, fun h1 g1 g2 g3 => ?_⟩
                          simp -dsimp only [Vm.G, List.lookup, Nat.reduceAdd, Nat.reduceBEq, Int.reduceBNe, Int.reduceBEq, Nat.reduceLeDiff, q17, bool_eql, beq_self_eq_true]
                          refine call_one (S := rComXSpec) rfl _ GaL.rfl ⟨R, f, g, t, by rw [hr], hB.viewM g3, fun h2 q1 q2 => ?_⟩
                          have hB2 := hB.turn g1 g3 g2 q1 q2 (.inl rfl)
                          have hr2 : (rComId R h1).iv = r0 := hr
                          generalize rComId R h1 = R2 at hB2 hr2
                          have hn0 : noF.n = 0 := rfl
                          simp -dsimp only [Vm.G, List.lookup, Nat.reduceAdd, Nat.reduceBEq, Int.reduceBNe, Int.reduceBEq, Nat.reduceLeDiff, q17]
                          refine call_one (S := changesXSpec) rfl _ GaL.rfl ⟨V, f, f, rfl, hB2.1, hB2.2.1, by omega, fun p d hp hd => ?_⟩
                          simp -dsimp only [Vm.G, List.lookup, Nat.reduceAdd, Nat.reduceBEq, Int.reduceBNe, Int.reduceBEq, Nat.reduceLeDiff, q17]
                          refine call_one (S := rChangesXSpec) rfl _ GaL.rfl ⟨R2, f, f, noF, by rw [hr2], hB2.2.2.1, by omega, by omega, hB2.2.2.2.2, fun p2 d2 hp2 hd2 hl1 hl2 => ?_⟩
                          have hpe : decide (p = p2) = true := decide_eq_true (puts_same hp hp2)
                          have hde : decide (d = d2) = true := decide_eq_true (dels_same hd hd2)
                          have hpl : p.length ≤ 9223372036854775807 := by rw [puts_same hp hp2]; omega
                          have hdl : d.length ≤ 9223372036854775807 := by rw [dels_same hd hd2]; omega
                          simp -dsimp only [Vm.G, List.lookup, Nat.reduceAdd, Nat.reduceBEq, Int.reduceBNe, Int.reduceBEq, Nat.reduceLeDiff, q17,  Bool.not_true]
                          refine call_one (S := pairsSpec) rfl _ GaL.rfl ⟨p, p2, hpl, rfl, ?_⟩
                          simp -dsimp only [Vm.G, List.lookup, Nat.reduceAdd, Nat.reduceBEq, Int.reduceBNe, Int.reduceBEq, Nat.reduceLeDiff, q17,  hpe, Bool.not_true]
                          refine call_one (S := bytesLSpec) rfl _ GaL.rfl ⟨d, d2, hdl, rfl, ?_⟩
                          simp -dsimp only [Vm.G, List.lookup, Nat.reduceAdd, Nat.reduceBEq, Int.reduceBNe, Int.reduceBEq, Nat.reduceLeDiff, q17,  hde, Bool.not_true]
                          refine kept_intro ⟨l.length - (i + 1), by omega, _, le_mk [(0, .ptr V.iv 0), (1, .ptr r0 0), (18, .sl 3 (l.map dvAv)), (19, .v (.int .i64 l.length)), (20, .v (.int .i64 (i + 1 : Nat)))] ?_, i + 1, R2, f, f, noF, by omega, by omega, hr2, hB2, by omega, by omega, rfl⟩
                          simp only [List.forall_mem_cons, List.not_mem_nil, false_imp_iff, implies_true, and_true,  hw]
                          try simp -dsimp only [Vm.G, List.lookup, Nat.reduceAdd, Nat.reduceBEq, Int.reduceBNe, Int.reduceBEq, Nat.reduceLeDiff, q17,  hw]
                          repeat' first | exact Fg.refl _ | exact Fg.nil _ _ _ (by decide) | refine And.intro ?_ ?_
                        · simp -dsimp only [Vm.G, List.lookup, Nat.reduceAdd, Nat.reduceBEq, Int.reduceBNe, Int.reduceBEq, Nat.reduceLeDiff, q17, o0, o1, o2, o3, o4, o5, o6]
                          refine call_one (S := abortSpec) rfl _ GaL.rfl ⟨V, f, g, rfl, hB.1, hB.2.1, fun h1 g1 g2 g3 => ?_⟩
                          simp -dsimp only [Vm.G, List.lookup, Nat.reduceAdd, Nat.reduceBEq, Int.reduceBNe, Int.reduceBEq, Nat.reduceLeDiff, q17]
                          refine call_one (S := rAbXSpec) rfl _ GaL.rfl ⟨R, f, g, t, by rw [hr], hB.view g3, fun h2 q1 q2 => ?_⟩
                          have hB2 := hB.turn g1 ⟨g3.1, fun j hj hm => g3.2 j hj (by simp at hm ⊢; exact hm.1)⟩ g2 q1 q2 (.inr rfl)
                          have hr2 : (rAbId R h1).iv = r0 := hr
                          generalize rAbId R h1 = R2 at hB2 hr2
                          simp -dsimp only [Vm.G, List.lookup, Nat.reduceAdd, Nat.reduceBEq, Int.reduceBNe, Int.reduceBEq, Nat.reduceLeDiff, q17]
                          refine call_one (S := changesXSpec) rfl _ GaL.rfl ⟨V, g, g, rfl, hB2.1, hB2.2.1, by omega, fun p d hp hd => ?_⟩
                          simp -dsimp only [Vm.G, List.lookup, Nat.reduceAdd, Nat.reduceBEq, Int.reduceBNe, Int.reduceBEq, Nat.reduceLeDiff, q17]
                          refine call_one (S := rChangesXSpec) rfl _ GaL.rfl ⟨R2, g, g, noF, by rw [hr2], hB2.2.2.1, by omega, by omega, hB2.2.2.2.2, fun p2 d2 hp2 hd2 hl1 hl2 => ?_⟩
                          have hpe : decide (p = p2) = true := decide_eq_true (puts_same hp hp2)
                          have hde : decide (d = d2) = true := decide_eq_true (dels_same hd hd2)
                          have hpl : p.length ≤ 9223372036854775807 := by rw [puts_same hp hp2]; omega
                          have hdl : d.length ≤ 9223372036854775807 := by rw [dels_same hd hd2]; omega
                          simp -dsimp only [Vm.G, List.lookup, Nat.reduceAdd, Nat.reduceBEq, Int.reduceBNe, Int.reduceBEq, Nat.reduceLeDiff, q17,  Bool.not_true]
                          refine call_one (S := pairsSpec) rfl _ GaL.rfl ⟨p, p2, hpl, rfl, ?_⟩
                          simp -dsimp only [Vm.G, List.lookup, Nat.reduceAdd, Nat.reduceBEq, Int.reduceBNe, Int.reduceBEq, Nat.reduceLeDiff, q17,  hpe, Bool.not_true]
                          refine call_one (S := bytesLSpec) rfl _ GaL.rfl ⟨d, d2, hdl, rfl, ?_⟩
                          simp -dsimp only [Vm.G, List.lookup, Nat.reduceAdd, Nat.reduceBEq, Int.reduceBNe, Int.reduceBEq, Nat.reduceLeDiff, q17,  hde, Bool.not_true]
                          refine kept_intro ⟨l.length - (i + 1), by omega, _, le_mk [(0, .ptr V.iv 0), (1, .ptr r0 0), (18, .sl 3 (l.map dvAv)), (19, .v (.int .i64 l.length)), (20, .v (.int .i64 (i + 1 : Nat)))] ?_, i + 1, R2, g, g, noF, by omega, by omega, hr2, hB2, by omega, by omega, rfl⟩
                          simp only [List.forall_mem_cons, List.not_mem_nil, false_imp_iff, implies_true, and_true,  hw]
                          try simp -dsimp only [Vm.G, List.lookup, Nat.reduceAdd, Nat.reduceBEq, Int.reduceBNe, Int.reduceBEq, Nat.reduceLeDiff, q17,  hw]
                          repeat' first | exact Fg.refl _ | exact Fg.nil _ _ _ (by decide) | refine And.intro ?_ ?_
    · simp -dsimp only [Vm.G, List.lookup, Nat.reduceAdd, Nat.reduceBEq, Int.reduceBNe, Int.reduceBEq, Nat.reduceLeDiff, q17]
      refine call_one (S := samesSpec) rfl _ GaL.rfl ⟨V, R, f, by rw [hr], hB.both, by omega, fun h2 _ _ => ?_⟩
      simp -dsimp only [Vm.G, List.lookup, Nat.reduceAdd, Nat.reduceBEq, Int.reduceBNe, Int.reduceBEq, Nat.reduceLeDiff, q17]
      exact hq _
def livesSpec : Vm.Spec := fun args h Q => ∃ l : List Dv, l.length ≤ 9223372036854775807 ∧ (∀ k ∈ l, k.key.length ≤ 9223372036854775807 ∧ k.val.length ≤ 9223372036854775807) ∧ args = [.sl 3 (l.map dvAv)] ∧ ∀ h', Q (.v (.bool true)) h'
def rNewXSpec : Vm.Spec := fun args h Q => ∃ V : VId, args = [.sl 2 []] ∧ isView h V noF ∧ memV h V noF ∧ ∀ (R : RId) (h' : Heap), BothX h' V R noF noF noF → Q (.ptr R.iv 0) h'
theorem does_rNewX : Does Tryz.prog 16 rNewXSpec := does_rNew.imp (by
  rintro args h Q ⟨V, rfl, hV, ⟨mem, clk, m1, m2⟩, hq⟩
  have hb := both_rnew hV
  exact ⟨rfl, hq (rNewId h) _ ⟨hb.1, ⟨mem, clk, heap_get _ m1, m2⟩, isRefX_new h, hb.2.2, fun k hk => absurd rfl hk⟩⟩)
set_option maxHeartbeats 1000000 in
theorem does_lives : Does Tryz.prog 4 livesSpec := by
  refine does_of_awp (good_cons does_vnewW (good_cons does_rNewX (good_cons does_play (good_cons does_law14awake good_nil)))) Tryz.func4 rfl (by decide +kernel) (by decide +kernel) ?_
  rintro args h Q ⟨l, hl, hkl, rfl, hq⟩
  refine ⟨by simp [Tryz.f4], ?_⟩
  rw [awpFunc_some (by rfl)]
  simp -dsimp only [Vm.G, List.lookup, Nat.reduceAdd, Nat.reduceBEq, Int.reduceBNe, Int.reduceBEq, Nat.reduceLeDiff, q4]
  refine call_one (S := vnewWSpec) rfl _ GaL.rfl ⟨rfl, fun V h1 hV hm => ?_⟩
  simp -dsimp only [Vm.G, List.lookup, Nat.reduceAdd, Nat.reduceBEq, Int.reduceBNe, Int.reduceBEq, Nat.reduceLeDiff, q4]
  refine call_one (S := rNewXSpec) rfl _ (.cons (.nil 2) .nil) ⟨V, rfl, hV, hm, fun R h2 hB => ?_⟩
  simp -dsimp only [Vm.G, List.lookup, Nat.reduceAdd, Nat.reduceBEq, Int.reduceBNe, Int.reduceBEq, Nat.reduceLeDiff, q4]
  refine nil_pointer Tryz.underlying23 ?_
  simp -dsimp only [Vm.G, List.lookup, Nat.reduceAdd, Nat.reduceBEq, Int.reduceBNe, Int.reduceBEq, Nat.reduceLeDiff, q4]
  refine call_one (S := playSpec) rfl _ GaL.rfl ⟨V, R, l, hl, hkl, rfl, hB, fun h3 => ?_⟩
  simp -dsimp only [Vm.G, List.lookup, Nat.reduceAdd, Nat.reduceBEq, Int.reduceBNe, Int.reduceBEq, Nat.reduceLeDiff, q4]
  refine call_one (S := yesSpec) rfl _ GaL.rfl ⟨rfl, fun h4 => ?_⟩
  simp -dsimp only [Vm.G, List.lookup, Nat.reduceAdd, Nat.reduceBEq, Int.reduceBNe, Int.reduceBEq, Nat.reduceLeDiff, q4]
  exact hq _
theorem isA_dv {y : AV} (h : IsA (.agg [.int .i64, .sl (.int .u8), .sl (.int .u8)]) y) : ∃ k : Dv, (k.key.length ≤ 9223372036854775807 ∧ k.val.length ≤ 9223372036854775807) ∧ y = dvAv k := by
  simp only [IsA, IsAll] at h
  obtain ⟨ys, ⟨y1, r1, rfl, h1, y2, r2, rfl, h2, y3, r3, rfl, h3, rfl⟩, rfl⟩ := h
  obtain ⟨a1, k1, rfl⟩ := isA_int (by simpa only [IsA] using h1)
  obtain ⟨a, ha, rfl⟩ := isA_bytes (by simpa only [IsA] using h2)
  obtain ⟨b, hb, rfl⟩ := isA_bytes (by simpa only [IsA] using h3)
  exact ⟨⟨a1, a, b⟩, ⟨Nat.le_trans ha (by decide), Nat.le_trans hb (by decide)⟩, rfl⟩
theorem lives_args {y0 : AV} (i0 : IsA (.sl (.agg [.int .i64, .sl (.int .u8), .sl (.int .u8)])) y0) {Q : AV → Heap → Prop} (hq : ∀ h', Q (.v (.bool true)) h') : livesSpec [y0] [] Q := by
  obtain ⟨l, hl, rfl, ho⟩ := isA_list _ dvAv (fun y hy => isA_dv hy) i0
  exact ⟨l, Nat.le_trans hl (by decide), ho, rfl, hq⟩
end Go.Proofs.Lx
