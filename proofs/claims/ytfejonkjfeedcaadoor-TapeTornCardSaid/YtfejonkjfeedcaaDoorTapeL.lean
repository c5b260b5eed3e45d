/- The pieces of a tape, one behind the other: a function over which tape.Read ranges. -/
import Derived.Test.YtfejonkjfeedcaaDoorTapeK
import Derived.RangeFuncNested
import Derived.RangeFuncBound
import Derived.RangeFuncCalls
import Derived.Shelf.RegionOpen
set_option linter.unusedSimpArgs false
set_option linter.unusedVariables false
namespace Go.Proofs
open Go.Vm Go.RowKit Go.Shelf
attribute [local go_sem] Oper.semAt_some

/-- What comes at each round: where a piece ends, its bytes. -/
abbrev Pc (w : World) (g : Gh) := { x : Nat × Value × List UInt8 // Rep w g (.sl 1 (x.2.2.map encB)) x.2.1 ∧ x.2.2.length ≤ 65535 }
def Pc.bytes {w : World} {g : Gh} (x : Pc w g) : List UInt8 := x.1.2.2
def Pc.encs {w : World} {g : Gh} (x : Pc w g) : Array Value := #[.int .i64 (x.1.1 : Int), x.1.2.1]
def lastAt {w : World} {g : Gh} (l : List (Pc w g)) : Nat := match l.getLast? with | some x => x.1.1 | none => 0
theorem lastAt_snoc {w : World} {g : Gh} (l : List (Pc w g)) (x : Pc w g) : lastAt (l ++ [x]) = x.1.1 := by simp [lastAt]
def bys {w : World} {g : Gh} (l : List (Pc w g)) : List (List UInt8) := l.map Pc.bytes
theorem bys_snoc {w : World} {g : Gh} (l : List (Pc w g)) (x : Pc w g) : bys (l ++ [x]) = bys l ++ [x.bytes] := by simp [bys]

/-- All pieces have come. -/
def AllOf {w : World} {g : Gh} (t : List UInt8) (l : List (Pc w g)) : Prop := bys l = readOf t ∧ lastAt l = endOf (readOf t)

theorem reads_nil (f : Nat) : reads f [] = [] := by cases f <;> simp [reads, nextP]

/-- What a round keeps: what lay below, and the box that the iterator reads. -/
def Kb (n₀ Bs : Nat) (A B : World) : Prop := Below n₀ A B ∧ B.heap[Bs]? = A.heap[Bs]?
theorem Kb.refl (n₀ Bs : Nat) (A : World) : Kb n₀ Bs A A := ⟨Below.refl _ _, rfl⟩
theorem Kb.trans {n₀ Bs : Nat} {A B C : World} (h : Kb n₀ Bs A B) (k : Kb n₀ Bs B C) : Kb n₀ Bs A C := ⟨h.1.trans k.1, k.2.trans h.2⟩
theorem Kb.of_below {n₀ Bs : Nat} {A B : World} (h : Below A.heap.size A B) (h1 : n₀ ≤ A.heap.size) (h2 : Bs < A.heap.size) : Kb n₀ Bs A B := ⟨h.mono h1, h.block Bs h2⟩
theorem Kb.cell {n₀ Bs : Nat} {A B : World} (h : Kb n₀ Bs A B) {v : Value} (hc : A.cell? ⟨Bs, 0, none⟩ = some v) : B.cell? ⟨Bs, 0, none⟩ = some v := (World.cell?_of_block h.2).trans hc

set_option maxRecDepth 100000 in
set_option maxHeartbeats 2000000 in
theorem pieces1_some (n : Nat) (hn : 1 ≤ n) (l Bs n₀ b0 o0 c : Nat) (w0 : World) (g : Gh) (t : List UInt8) (ht : 0 < t.length) (htl : t.length ≤ 35184372) (hr : Rep w0 g (.sl 1 (t.map encB)) (.slice (some ⟨b0, o0, none⟩) t.length c)) (hc : Calm w0 g) (hn0 : w0.heap.size ≤ n₀)
    (hcap : t.length ≤ c) (hcm : c ≤ 9223372036854775807) (J Jx : List (Pc w0 g) → World → Prop)
    (hY : ∀ pre x W, J pre W → pre.length < t.length → YieldAt Fence.wide (n - 1) Tryd.prog l #[.int .i64 (x.1.1 : Int), x.1.2.1] W fun e W' =>
      (e = .returned (.bool true) ∧ J (pre ++ [x]) W' ∧ Kb n₀ Bs W W') ∨ (e = .returned (.bool false) ∧ Jx (pre ++ [x]) W'))
    (W : World) (hW : Below w0.heap.size w0 W) (hBs0 : Bs < W.heap.size) (hBs : W.cell? ⟨Bs, 0, none⟩ = some (.slice (some ⟨b0, o0, none⟩) t.length c)) (hsz : n₀ ≤ W.heap.size) (hJb : ∀ pre W1 W2, J pre W1 → Below W1.heap.size W1 W2 → J pre W2) (h0 : J [] W) :
    CallsIn Fence.wide n Tryd.prog 36 #[.func (.yield l) #[] #[], .pointer (some ⟨Bs, 0, none⟩)] W fun e W' => (∃ v, e = .returned v) ∧
      ((∃ ys, AllOf t ys ∧ J ys W') ∨ (∃ pre, True ∧ Jx pre W')) := by
  refine callsIn_of_wp Tryd.func36 rfl trivial ?_ rfl
  simp only [Tryd.ntmps36, List.size_toArray, List.length_cons, List.length_nil, Nat.reduceAdd, Nat.reduceSub, Array.replicate_succ, Array.replicate_zero, List.push_toArray, List.append_toArray, List.nil_append, List.cons_append]
  gi_wp2
  gi_loopw [3] (fun i wr => ∃ (pre : List (Pc w0 g)) (r : List UInt8) (f : Nat), i = .int .i64 (endOf (bys pre) : Int) ∧ Mid t (bys pre) r f ∧ lastAt pre = endOf (bys pre) ∧ J pre wr ∧ Kb n₀ Bs W wr ∧ Below w0.heap.size w0 wr)
    (fun i _ => t.length - (intOf i).toNat)
  case atStart => exact ⟨[], t, t.length, rfl, Mid.start t, rfl, h0, Kb.refl _ _ _, hW⟩
  case round =>
    obtain ⟨pre, r, f, rfl, hm, hla, hJs, hnx, hw0⟩ := hrel
    have hle := hm.le
    have hrd := hm.rest
    have hrl : r.length = t.length - endOf (bys pre) := by rw [hrd]; simp
    have hBx : wr.cell? ⟨Bs, 0, none⟩ = some (.slice (some ⟨b0, o0, none⟩) t.length c) := hnx.cell hBs
    have hcr : Calm wr g := hc.later hw0
    have hkr : Keeps w0 g wr g := keeps_below hc.fresh hw0
    have hpre : pre.length < t.length ∨ r.length < 6 := by
      have h1 := endOf_ge (bys pre)
      have h2 : (bys pre).length = pre.length := by simp [bys]
      omega
    have HL := Lib.hid hla
    cases hnp : nextP r with
    | some b =>
      obtain ⟨hb1, hb2, hb3, hb4, hb5⟩ := nextP_some hnp
      have hsub : Rep wr g (.sl 1 (r.map encB)) (.slice (some ⟨b0, o0 + endOf (bys pre), none⟩) (t.length - endOf (bys pre)) (c - endOf (bys pre))) := by
        have h1 := rep_part (hr.keep hkr) (endOf (bys pre)) (t.length - endOf (bys pre)) (by omega) (by omega)
        rw [List.take_of_length_le (by simp), ← hrd] at h1
        exact h1
      have hfst := firstSome (by rw [hrl]; exact hsub) hcr (by omega) hnp
      have hx : Rep w0 g (.sl 1 (b.map encB)) (.slice (some ⟨b0, o0 + endOf (bys pre) + 2, none⟩) b.length (c - endOf (bys pre) - 2)) := by
        have h1 := rep_part hr (endOf (bys pre) + 2) b.length (by omega) (by omega)
        rw [← List.drop_drop, ← hrd, ← hb1] at h1
        rw [show o0 + endOf (bys pre) + 2 = o0 + (endOf (bys pre) + 2) by omega, show c - endOf (bys pre) - 2 = c - (endOf (bys pre) + 2) by omega]
        exact h1
      obtain ⟨x, hxe⟩ : ∃ x : Pc w0 g, x = ⟨(endOf (bys pre) + (b.length + 6), .slice (some ⟨b0, o0 + endOf (bys pre) + 2, none⟩) b.length (c - endOf (bys pre) - 2), b), hx, hb5⟩ := ⟨_, rfl⟩
      have hend : endOf (bys (pre ++ [x])) = endOf (bys pre) + (b.length + 6) := by rw [bys_snoc, endOf_snoc, hxe]; rfl
      obtain ⟨fuel, rfl, hm2⟩ := hm.step hnp
      have hm3 : Mid t (bys (pre ++ [x])) (r.drop (b.length + 6)) fuel := by rw [bys_snoc, hxe]; exact hm2
      have hla3 : lastAt (pre ++ [x]) = endOf (bys (pre ++ [x])) := by rw [lastAt_snoc, hend, hxe]
      have hmle : endOf (bys pre) + (b.length + 6) ≤ t.length := by have := hm3.le; rw [hend] at this; exact this
      have hxa : ((x.1.1 : Nat) : Int) = (endOf (bys pre) : Int) + (2 + (b.length : Int) + 4) := by rw [hxe]; simp only; omega
      have hxv : x.1.2.1 = .slice (some ⟨b0, o0 + endOf (bys pre) + 2, none⟩) b.length (c - endOf (bys pre) - 2) := by rw [hxe]
      have hYx := fun W' hJ' => hY pre x W' hJ' (by omega)
      rw [hxa, hxv] at hYx
      have HA := Lib.hid hxa
      have HE := Lib.hid hend
      clear hxe hxa hxv hend hm2 hb1 hb2 hb4 hrd hla hsub hx hnp
      have HRL := Lib.hid hrl
      have HLA := Lib.hid hla3
      have hlt : endOf (bys pre) < t.length := by omega
      rw [hrl] at hfst
      clear hrl hla3
      have HY := Lib.hid hYx
      clear hYx hY
      have HJ := Lib.hid hJb
      clear hJb
      generalize hee : endOf (bys pre) = e0 at *
      generalize htt : t.length = tl at *
      generalize hbb : b.length = bl at *
      have HEE := Lib.hid hee
      have HTT := Lib.hid htt
      have HBB := Lib.hid hbb
      clear hee htt hbb
      gi_wp2_with (first | (refine ⟨trivial, ?_⟩; gi_at_call 37; refine (callsIn_wide.2 hfst).mono ?_; rintro e w1 ⟨rfl, bl1⟩; obtain ⟨fn, tmps, assign, body, hy, hR⟩ := HY.out w1 (HJ.out _ _ _ hJs bl1)))
      refine hR.mono ?_
      rintro e W3 (⟨rfl, hJ3, hk3⟩ | ⟨rfl, hJx3⟩)
      · gi_wp2
        go_roundw
        case rel =>
          have hs1 : n₀ ≤ wr.heap.size := Nat.le_trans hsz hnx.1.size
          have hb13 : Kb n₀ Bs wr W3 := (Kb.of_below bl1 hs1 (Nat.lt_of_lt_of_le hBs0 hnx.1.size)).trans hk3
          refine ⟨pre ++ [x], _, fuel, ?_, hm3, HLA.out, hJ3, hnx.trans hb13, hw0.trans (hb13.1.mono hn0)⟩
          rw [HE.out]
          simp only [Value.int.injEq, true_and]
          omega
        case measure => simp [intOf]; omega
      · gi_wp2
        refine bodyPost_ret (results_none rfl _ _ _) rfl ?_
        exact ⟨⟨_, rfl⟩, .inr ⟨pre ++ [x], trivial, hJx3⟩⟩
    | none =>
      have hx := hm.stop hnp
      have hall : AllOf t pre := ⟨hx.symm, by rw [hx]; exact hla⟩
      have HA := Lib.hid hall
      have hsub : ∀ a k, (k = c - endOf (bys pre) ∧ endOf (bys pre) < c ∧ a = some ⟨b0, o0 + endOf (bys pre), none⟩) ∨ (t.length = endOf (bys pre) ∧ k = 0 ∧ a = some ⟨b0, o0, none⟩) → Rep wr g (.sl 1 (r.map encB)) (.slice a (t.length - endOf (bys pre)) k) := by
        rintro a k (⟨rfl, h2, rfl⟩ | ⟨h1, rfl, rfl⟩)
        · have h1 := rep_part (hr.keep hkr) (endOf (bys pre)) (t.length - endOf (bys pre)) (by omega) h2
          rw [List.take_of_length_le (by simp), ← hrd] at h1
          exact h1
        · have : r = [] := List.eq_nil_of_length_eq_zero (by omega)
          rw [this, h1, Nat.sub_self]
          exact .empty 1 _ 0 (Nat.zero_le _)
      have hfst := fun a k h => firstNone (hsub a k h) hcr (by omega) hnp
      have HF := Lib.hid hfst
      clear hfst hsub hm hall hla hrd hrl hnp hY hx
      have HJ := Lib.hid hJb
      clear hJb
      generalize hee : endOf (bys pre) = e0 at *
      generalize htt : t.length = tl at *
      clear hee htt
      by_cases hce : c = e0
      · have f1 := HF.out (some ⟨b0, o0, none⟩) 0 (.inr ⟨by omega, rfl, rfl⟩)
        clear HF
        gi_wp2_with (first | (refine ⟨trivial, ?_⟩; gi_at_call 37; refine (callsIn_wide.2 f1).mono ?_; rintro e w1 ⟨xv, rfl, bl1⟩))
        refine bodyPost_ret (results_none rfl _ _ _) rfl ?_
        exact ⟨⟨_, rfl⟩, .inl ⟨pre, HA.out, HJ.out _ _ _ hJs bl1⟩⟩
      · have f1 := HF.out (some ⟨b0, o0 + e0, none⟩) (c - e0) (.inl ⟨rfl, by omega, rfl⟩)
        clear HF
        gi_wp2_with (first | (refine ⟨trivial, ?_⟩; gi_at_call 37; refine (callsIn_wide.2 f1).mono ?_; rintro e w1 ⟨xv, rfl, bl1⟩))
        refine bodyPost_ret (results_none rfl _ _ _) rfl ?_
        exact ⟨⟨_, rfl⟩, .inl ⟨pre, HA.out, HJ.out _ _ _ hJs bl1⟩⟩

set_option maxRecDepth 100000 in
set_option maxHeartbeats 2000000 in
theorem pieces1_none (n : Nat) (hn : 1 ≤ n) (l Bs n₀ : Nat) (sv : Value) (w0 : World) (g : Gh) (hc : Calm w0 g)
    (hsv : sv = .slice none 0 0 ∨ ∃ ad c, sv = .slice (some ad) 0 c ∧ c ≤ 9223372036854775807) (J Jx : List (Pc w0 g) → World → Prop)
    (W : World) (hW : Below w0.heap.size w0 W) (hBs : W.cell? ⟨Bs, 0, none⟩ = some sv) (hJb : ∀ pre W1 W2, J pre W1 → Below W1.heap.size W1 W2 → J pre W2) (h0 : J [] W) :
    CallsIn Fence.wide n Tryd.prog 36 #[.func (.yield l) #[] #[], .pointer (some ⟨Bs, 0, none⟩)] W fun e W' => (∃ v, e = .returned v) ∧
      ((∃ ys, AllOf [] ys ∧ J ys W') ∨ (∃ pre, True ∧ Jx pre W')) := by
  have hcr : Calm W g := hc.later hW
  have hall : AllOf [] ([] : List (Pc w0 g)) := ⟨rfl, rfl⟩
  have hfst : ∀ sv', Rep W g (.sl 1 (([] : List UInt8).map encB)) sv' → Calls Tryd.prog 37 #[sv'] W fun e w' => ∃ x, e = .returned (.tuple #[x, .bool false]) ∧ Below W.heap.size W w' := fun sv' h => firstNone h hcr (by decide) (by simp [nextP])
  have HF := Lib.hid hfst
  have HJ := Lib.hid hJb
  have HA := Lib.hid hall
  clear hJb hfst hall
  refine callsIn_of_wp Tryd.func36 rfl trivial ?_ rfl
  simp only [Tryd.ntmps36, List.size_toArray, List.length_cons, List.length_nil, Nat.reduceAdd, Nat.reduceSub, Array.replicate_succ, Array.replicate_zero, List.push_toArray, List.append_toArray, List.nil_append, List.cons_append]
  gi_wp2
  gi_loopw [3] (fun i wr => i = .int .i64 0 ∧ wr = W) (fun i _ => 0)
  case atStart => exact ⟨rfl, rfl⟩
  case round =>
    obtain ⟨rfl, rfl⟩ := hrel
    rcases hsv with rfl | ⟨ad, c, rfl, hcm⟩
    · have f1 := HF.out (.slice none 0 0) (.nil 1)
      gi_wp2_with (first | (refine ⟨trivial, ?_⟩; gi_at_call 37; refine (callsIn_wide.2 f1).mono ?_; rintro e w1 ⟨xv, rfl, bl1⟩))
      refine bodyPost_ret (results_none rfl _ _ _) rfl ?_
      exact ⟨⟨_, rfl⟩, .inl ⟨[], HA.out, HJ.out _ _ _ h0 bl1⟩⟩
    · have f1 := HF.out (.slice (some ad) 0 c) (.empty 1 _ c (by unfold maxLen; omega))
      by_cases hce : c = 0
      · subst hce
        gi_wp2_with (first | (refine ⟨trivial, ?_⟩; gi_at_call 37; refine (callsIn_wide.2 f1).mono ?_; rintro e w1 ⟨xv, rfl, bl1⟩))
        refine bodyPost_ret (results_none rfl _ _ _) rfl ?_
        exact ⟨⟨_, rfl⟩, .inl ⟨[], HA.out, HJ.out _ _ _ h0 bl1⟩⟩
      · gi_wp2_with (first | (refine ⟨trivial, ?_⟩; gi_at_call 37; refine (callsIn_wide.2 f1).mono ?_; rintro e w1 ⟨xv, rfl, bl1⟩))
        refine bodyPost_ret (results_none rfl _ _ _) rfl ?_
        exact ⟨⟨_, rfl⟩, .inl ⟨[], HA.out, HJ.out _ _ _ h0 bl1⟩⟩

end Go.Proofs
