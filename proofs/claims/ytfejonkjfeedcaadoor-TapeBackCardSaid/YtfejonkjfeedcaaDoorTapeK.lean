/- From contracts to calls at real values; the piece with which bytes begin, by its value. -/
import Derived.Test.YtfejonkjfeedcaaDoorTapeJ
import Derived.RangeFuncBox
import Derived.RangeFuncLeaves
import Derived.Shelf.Abstract
import Derived.OwnWalkIn
import Derived.TacticsInMore
import Derived.LoopNIn
import Derived.LoopIn
import Derived.Maps.AppendAt
import Derived.Lib.Hide
set_option linter.unusedSimpArgs false
set_option linter.unusedVariables false
namespace Go.Proofs
open Go.Vm Go.RowKit Go.Shelf

/-- Without objects: what a call may count on. -/
structure Calm (w : World) (g : Gh) : Prop where
  n : g.n = 0
  fresh : ∀ b, w.heap.size ≤ b → g.pub b = 0
  laid : LaidG w g

theorem Calm.heap {w : World} {g : Gh} (h : Calm w g) : HeapRep w g [] :=
  ⟨h.n.symm, fun i hi => absurd hi (by rw [h.n]; exact Nat.not_lt_zero _), fun i j hi => absurd hi (by rw [h.n]; exact Nat.not_lt_zero _), fun i o ho => by simp at ho⟩
theorem keeps_below {w w' : World} {g : Gh} (hf : ∀ b, w.heap.size ≤ b → g.pub b = 0) (hb : Below w.heap.size w w') : Keeps w g w' g :=
  ⟨fun _ => Nat.le_refl _, fun b j v hj hv => by
    have hlt : b < w.heap.size := by
      rcases Nat.lt_or_ge b w.heap.size with h | h
      · exact h
      · rw [hf b h] at hj; omega
    exact (hb.cell (p := ⟨b, j, none⟩) hlt).trans hv, Nat.le_refl _, fun _ _ => rfl⟩
theorem Calm.later {w w' : World} {g : Gh} (h : Calm w g) (hb : Below w.heap.size w w') : Calm w' g :=
  ⟨h.n, fun b hb' => h.fresh b (Nat.le_trans hb.size hb'), fun i cs hi => (h.laid i cs hi).keep (keeps_below h.fresh hb)⟩

theorem _root_.Go.Vm.Does.calls {P : Program} {f : FuncId} {S : Vm.Spec} (hd : Does P f S) {args : List AV} {w : World} {g : Gh} {vs : Array Value} {Q : AV → Prop} (hS : S args [] fun r h => Q r ∧ h = [])
    (hl : vs.size = args.length) (hr : ∀ j u, args[j]? = some u → Rep w g u (vs.getD j undef)) (hc : Calm w g) :
    Calls P f vs w fun e w' => ∃ r g' v, Q r ∧ e = .returned v ∧ ResRep w' g' w.heap.size r v ∧ Below w.heap.size w w' ∧ Keeps w g w' g' ∧ Calm w' g' := by
  refine (hd.2 args [] _ hS w g vs hl hr hc.heap hc.fresh hc.laid).mono ?_
  rintro e w' ⟨r, h', g', v', ⟨hq, rfl⟩, rfl, hres, hh, hfr, hn, hloc, hold, hnew, hfresh⟩
  have hn' : g'.n = 0 := hh.n.symm
  have hbl : Below w.heap.size w w' := ⟨hfr.os, hfr.tape, hfr.output, hfr.size, fun k hk => hfr.block k hk fun i hi => absurd hi (by rw [hc.n]; exact Nat.not_lt_zero _)⟩
  have hk : Keeps w g w' g' := by
    have h1 := keeps_below hc.fresh hbl
    refine ⟨fun b => ?_, h1.cell, hn, hloc⟩
    rcases Nat.lt_or_ge b w.heap.size with h | h
    · rw [hold b h]; exact Nat.le_refl _
    · rw [hc.fresh b h]; exact Nat.zero_le _
  exact ⟨r, g', v', hq, rfl, hres, hbl, hk, ⟨hn', hfresh, fun i cs hi => (hc.laid i cs hi).keep hk⟩⟩

/-- A slice of the call's own, handed on for good. -/
theorem own_open {w : World} {g : Gh} {B e sz : Nat} {m : Bool} {xs : List AV} {v : Value} (h : OwnRep w g B m e sz xs v) (hfr : ∀ b, w.heap.size ≤ b → g.pub b = 0) :
    ∃ g', Keeps w g w g' ∧ Rep w g' (.sl sz xs) v ∧ g'.n = g.n ∧ (∀ b, w.heap.size ≤ b → g'.pub b = 0) ∧ ∀ b, b < B → g'.pub b = g.pub b := by
  obtain ⟨h1, h2, vs, h3, h4, h5, h6⟩ := h
  have hl := h3.1
  rcases h3.2 with ⟨hv, hn⟩ | ⟨gb, cap, cur, hv, a1, a2, a3, a4, a5, a6⟩
  · have hx : xs = [] := List.eq_nil_of_length_eq_zero hn
    subst hx
    exact ⟨g, Keeps.refl w g, by rw [hv]; exact .nil sz, rfl, hfr, fun _ _ => rfl⟩
  · have hlt : gb < w.heap.size := by
      rcases Nat.lt_or_ge gb w.heap.size with h | h
      · exact h
      · simp [Array.getElem?_eq_none h] at a2
    have hk := keeps_raise w g gb (xs.length * sz)
    have hpub : (raise g gb (xs.length * sz)).pub gb = xs.length * sz := by
      have := h6 gb (by rw [hv]; rfl)
      simp only [raise, if_true]
      cases m <;> simp at this <;> omega
    have hxl := flat_length h2
    refine ⟨raise g gb (xs.length * sz), hk, ?_, rfl, fun b hb => ?_, fun b hb => ?_⟩
    · rw [hv]
      refine .sl (fun j => vs.getD j undef) a3 a4 h1 h2 (fun j u hu => ?_) (fun j u hu => (h5 j u hu).keep hk)
      have hj : j < xs.length * sz := by
        rw [← hxl]
        rcases Nat.lt_or_ge j (flat xs).length with h' | h'
        · exact h'
        · simp [List.getElem?_eq_none h'] at hu
      refine ⟨?_, by rw [hpub]; omega, ?_⟩
      · rw [Nat.zero_add]
        exact ownsRow_cell h3 hv j (by omega)
      · apply h4
        rw [List.getD_eq_getElem?_getD, List.getElem?_eq_getElem (by omega)]
        exact List.getElem_mem _
    · rw [raise_other (by omega)]; exact hfr b hb
    · rw [raise_other (by omega)]

theorem firstNone {w : World} {g : Gh} {sv : Value} {r : List UInt8} (hr : Rep w g (.sl 1 (r.map encB)) sv) (hc : Calm w g) (hl : r.length ≤ 35184372) (hn : nextP r = none) :
    Calls Tryd.prog 37 #[sv] w fun e w' => ∃ x, e = .returned (.tuple #[x, .bool false]) ∧ Below w.heap.size w w' := by
  refine (does_first.calls (args := [.sl 1 (r.map encB)]) (Q := fun q => ∃ x, q = .tup [x, .v (.bool false)]) ⟨r, by omega, rfl, fun _ x => ⟨⟨x, rfl⟩, rfl⟩, fun b hb => by rw [hn] at hb; cases hb⟩ rfl (fun j u hu => ?_) hc).mono ?_
  · rcases j with _ | j
    · simp at hu; subst hu; exact hr
    · simp at hu
  · rintro e w' ⟨q, g', v, ⟨x, rfl⟩, rfl, hres, hb, -, -⟩
    have hres' : Rep w' g' (.tup [x, .v (.bool false)]) v := hres
    cases hres' with
    | tup hl hs =>
      rename_i vs
      obtain ⟨x0, x1, rfl⟩ : ∃ x0 x1, vs = #[x0, x1] := by
        simp at hl
        exact ⟨vs[0], vs[1], by apply Array.ext <;> simp [hl]; intro i hi; rcases i with _ | _ | i <;> simp; omega⟩
      have := hs 1 _ rfl
      simp at this
      cases this
      exact ⟨x0, rfl, hb⟩

theorem bytes_addr {w : World} {g : Gh} {b : Option Addr} {n c : Nat} {l : List UInt8} (h : Rep w g (.sl 1 (l.map encB)) (.slice b n c)) (h0 : 0 < l.length) : ∃ x o, b = some ⟨x, o, none⟩ ∧ n = l.length ∧ n ≤ c ∧ c ≤ maxLen := by
  generalize hv : Value.slice b n c = v at h
  generalize hx : l.map encB = xs at h
  cases h with
  | nil => simp at hx; subst hx; simp at h0
  | empty => simp at hx; subst hx; simp at h0
  | sl vs hc hm =>
    simp only [Value.slice.injEq] at hv
    obtain ⟨rfl, rfl, rfl⟩ := hv
    exact ⟨_, _, rfl, by rw [← hx]; simp, hc, hm⟩

theorem rep_part {w : World} {g : Gh} {b o c : Nat} {l : List UInt8} (h : Rep w g (.sl 1 (l.map encB)) (.slice (some ⟨b, o, none⟩) l.length c)) (k n : Nat) (hk : k + n ≤ l.length) (hc : k < c) :
    Rep w g (.sl 1 (((l.drop k).take n).map encB)) (.slice (some ⟨b, o + k, none⟩) n (c - k)) := by
  have hcc : l.length ≤ c := by
    obtain ⟨x, y, e, h1⟩ := rep_sl_shape h
    simp only [Value.slice.injEq, List.length_map] at e h1; omega
  have h1 := rep_slice (xs := l.map encB) (b := some ⟨b, o, none⟩) (c := c) (by simpa using h) k (k + n) c (by omega) (by simpa using hk) (by omega) (Nat.le_refl _)
  have e1 : ((l.map encB).take (k + n)).drop k = ((l.drop k).take n).map encB := by
    rw [← List.map_take, ← List.map_drop, List.drop_take]; congr 2; omega
  rw [e1] at h1
  unfold sliced at h1
  rw [if_neg (by omega)] at h1
  have e2 : k + n - k = n := by omega
  have e3 : (⟨b, o, none⟩ : Addr).add (k * 1) = ⟨b, o + k, none⟩ := by
    unfold Addr.add; split
    · have : k = 0 := by omega
      subst this; rfl
    · simp
  rw [e2] at h1
  simp only [Option.map_some, e3] at h1
  exact h1

theorem getC {w : World} {g : Gh} {sv : Value} {r : List UInt8} (hr : Rep w g (.sl 1 (r.map encB)) sv) (hc : Calm w g) (hl : r.length ≤ 35184372) (h2 : 2 ≤ r.length) :
    Calls Tryd.prog 50 #[sv, .int .i64 0, .int .i64 2] w fun e w' => e = .returned (.tuple #[.int .i64 ((getOf (r.take 2)).toNat : Int), .int .i64 0]) ∧ Below w.heap.size w w' := by
  have hl2 : (r.take 2).length = 2 := by simp; omega
  have hres : getRes r 0 2 = [.v (.int .i64 ((getOf (r.take 2)).toNat : Int)), .v (.int .i64 0)] := by
    unfold getRes
    rw [if_neg (by decide), if_neg (by omega)]
    rw [show (r.drop (0 : Int).toNat).take (2 : Int).toNat = r.take 2 by simp, get2_int _ hl2]
  refine (does_get.calls (args := [.sl 1 (r.map encB), .v (.int .i64 0), .v (.int .i64 2)]) (Q := fun q => q = .tup (getRes r 0 2)) ⟨r, 0, 2, by omega, by decide, rfl, rfl, rfl⟩ rfl (fun j u hu => ?_) hc).mono ?_
  · rcases j with _ | _ | _ | j
    · simp at hu; subst hu; exact hr
    · simp at hu; subst hu; exact .v rfl
    · simp at hu; subst hu; exact .v rfl
    · simp at hu
  · rintro e w' ⟨q, g', v, rfl, rfl, hres', hb, -, -⟩
    rw [hres] at hres'
    have h3 : Rep w' g' (.tup [.v (.int .i64 ((getOf (r.take 2)).toNat : Int)), .v (.int .i64 0)]) v := hres'
    cases h3 with
    | tup hl hs =>
      rename_i vs
      obtain ⟨x0, x1, rfl⟩ : ∃ x0 x1, vs = #[x0, x1] := by
        simp at hl
        exact ⟨vs[0], vs[1], by apply Array.ext <;> simp [hl]; intro i hi; rcases i with _ | _ | i <;> simp; omega⟩
      have a0 := hs 0 _ rfl
      have a1 := hs 1 _ rfl
      simp at a0 a1
      cases a0; cases a1
      exact ⟨rfl, hb⟩

theorem sealedC {w : World} {g : Gh} {sv : Value} {b : List UInt8} (hr : Rep w g (.sl 1 (b.map encB)) sv) (hc : Calm w g) (hl : b.length ≤ 65535) :
    Calls Tryd.prog 22 #[sv] w fun e w' => ∃ v g', e = .returned v ∧ Rep w' g' (.sl 1 ((pieceOf b).map encB)) v ∧ Below w.heap.size w w' ∧ Keeps w g w' g' ∧ Calm w' g' := by
  refine (does_sealed.calls (args := [.sl 1 (b.map encB)]) (Q := fun q => q = .own true 5 1 ((pieceOf b).map encB)) ⟨b, hl, rfl, rfl, rfl⟩ rfl (fun j u hu => ?_) hc).mono ?_
  · rcases j with _ | j
    · simp at hu; subst hu; exact hr
    · simp at hu
  · rintro e w' ⟨q, g', v, rfl, rfl, ⟨hres, -⟩, hb, hk, hc'⟩
    obtain ⟨g2, k2, r2, n2, f2, -⟩ := own_open hres hc'.fresh
    exact ⟨v, g2, rfl, r2, hb, hk.trans k2, ⟨n2.trans hc'.n, f2, fun i cs hi => (hc'.laid i cs hi).keep k2⟩⟩

theorem prefixC {w : World} {g : Gh} {sv tv : Value} {a b : List UInt8} (hr : Rep w g (.sl 1 (a.map encB)) sv) (ht : Rep w g (.sl 1 (b.map encB)) tv) (hc : Calm w g) :
    Calls Tryd.prog 51 #[sv, tv] w fun e w' => e = .returned (.bool (b.isPrefixOf a)) ∧ Below w.heap.size w w' := by
  refine (does_hasPrefix.calls (args := [.sl 1 (a.map encB), .sl 1 (b.map encB)]) (Q := fun q => q = .v (.bool (b.isPrefixOf a))) ⟨a, b, rfl, rfl, rfl⟩ rfl (fun j u hu => ?_) hc).mono ?_
  · rcases j with _ | _ | j
    · simp at hu; subst hu; exact hr
    · simp at hu; subst hu; exact ht
    · simp at hu
  · rintro e w' ⟨q, g', v, rfl, rfl, hres, hb, -, -⟩
    have h3 : Rep w' g' (.v (.bool (b.isPrefixOf a))) v := hres
    cases h3
    exact ⟨rfl, hb⟩

theorem nextP_some {r b : List UInt8} (h : nextP r = some b) : b = (r.drop 2).take b.length ∧ (getOf (r.take 2)).toNat = b.length ∧ b.length + 6 ≤ r.length ∧ (pieceOf b).isPrefixOf r = true ∧ b.length ≤ 65535 := by
  have hl := nextP_len h
  have hlt := get2_lt (r.take 2) (by simp; omega)
  unfold nextP at h
  simp only at h
  split at h
  · cases h
  · split at h
    · cases h
    · split at h
      · rename_i h2 h6 hp
        simp only [Option.some.injEq] at h
        have hbl : b.length = (getOf (r.take 2)).toNat := by rw [← h]; simp; omega
        refine ⟨by rw [hbl]; exact h.symm, hbl.symm, hl, ?_, by omega⟩
        rw [h] at hp
        rw [List.isPrefixOf_iff_prefix, List.prefix_iff_eq_take, piece_len, hp, hbl]
      · cases h

theorem sealedAt {w w1 : World} {g : Gh} {b0 o c bl : Nat} {r b : List UInt8} (hp : Rep w g (.sl 1 (((r.drop 2).take bl).map encB)) (.slice (some ⟨b0, o, none⟩) bl c)) (hc : Calm w g) (h1 : b = (r.drop 2).take bl) (hbl : b.length = bl) (h5 : bl ≤ 65535) (hb : Below w.heap.size w w1) :
    Calls Tryd.prog 22 #[.slice (some ⟨b0, o, none⟩) bl c] w1 fun e w' => ∃ v g', e = .returned v ∧ Rep w' g' (.sl 1 ((pieceOf b).map encB)) v ∧ Below w1.heap.size w1 w' ∧ Keeps w1 g w' g' ∧ Calm w' g' := by
  exact sealedC (by rw [h1]; exact hp.keep (keeps_below hc.fresh hb)) (hc.later hb) (by rw [hbl]; exact h5)

set_option maxHeartbeats 1000000 in
theorem firstSome {w : World} {g : Gh} {b0 o0 c : Nat} {r b : List UInt8} (hr : Rep w g (.sl 1 (r.map encB)) (.slice (some ⟨b0, o0, none⟩) r.length c)) (hc : Calm w g) (hl : r.length ≤ 35184372) (hn : nextP r = some b) :
    Calls Tryd.prog 37 #[.slice (some ⟨b0, o0, none⟩) r.length c] w fun e w' => e = .returned (.tuple #[.slice (some ⟨b0, o0 + 2, none⟩) b.length (c - 2), .bool true]) ∧ Below w.heap.size w w' := by
  obtain ⟨hb1, hb2, hb3, hb4, hb5⟩ := nextP_some hn
  have hcm : r.length ≤ c ∧ c ≤ maxLen := by
    obtain ⟨x, o, -, -, h1, h2⟩ := bytes_addr hr (by omega)
    exact ⟨h1, h2⟩
  have g1 := getC hr hc hl (by omega)
  rw [hb2] at g1
  have HP := Lib.hid (rep_part hr 2 b.length (by omega) (by omega))
  have HR := Lib.hid hr
  have HC := Lib.hid hc
  have H4 := Lib.hid hb4
  have H1 := Lib.hid hb1
  have hl1 : 6 ≤ r.length := by omega
  have hl3 : b.length + 6 ≤ r.length := hb3
  generalize hrl : r.length = rl at *
  generalize hbl : b.length = bl at *
  have hcap : rl ≤ c := hcm.1
  have hcm2 : c ≤ 9223372036854775807 := by have := hcm.2; unfold maxLen at this; omega
  have HRL := Lib.hid hrl
  have HBL := Lib.hid hbl
  clear hr hc hb1 hb2 hb3 hb4 hn hrl hbl hcm
  go_enter Tryd.func37, Tryd.ntmps37
  go_wp2_with (first | (go_at_call 50; refine g1.mono ?_; rintro e w1 ⟨rfl, bl1⟩) | (go_at_call 22; refine (sealedAt HP.out HC.out H1.out HBL.out hb5 bl1).mono ?_; rintro e w2 ⟨v, g2, rfl, hr2, bl2, k2, c2⟩) |
    (go_at_call 51; refine (prefixC (g := g2) (HR.out.keep ((keeps_below HC.out.fresh bl1).trans k2)) hr2 c2).mono ?_; rintro e w3 ⟨rfl, bl3⟩))
  rw [H4.out]
  go_ret2
  exact ⟨rfl, (bl1.trans (bl2.mono bl1.size)).trans (bl3.mono (Nat.le_trans bl1.size bl2.size))⟩

end Go.Proofs
