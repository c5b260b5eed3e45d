/- From a function's contract to a law's call: what came in is read only, and all that was there stays. -/
import Derived.Test.YthfbpdipilajoaaGreatDoorVmQ
set_option linter.unusedVariables false
set_option linter.unusedSimpArgs false
namespace Go.Vm
open Go.RowKit

theorem wrap_i64 {n : Int} (h0 : -9223372036854775808 ≤ n) (h1 : n ≤ 9223372036854775807) : IntKind.i64.wrap n = n := by
  simp [IntKind.wrap, IntKind.bits, IntKind.signed]; omega
theorem wrap_u32 {n : Int} (h0 : 0 ≤ n) (h1 : n < 4294967296) : IntKind.u32.wrap n = n := by
  simp [IntKind.wrap, IntKind.bits, IntKind.signed]; omega
theorem wrap_u8 {n : Int} (h0 : 0 ≤ n) (h1 : n < 256) : IntKind.u8.wrap n = n := by
  simp [IntKind.wrap, IntKind.bits, IntKind.signed]; omega
theorem wrap_u64 {n : Int} (h0 : 0 ≤ n) (h1 : n < 18446744073709551616) : IntKind.u64.wrap n = n := by
  simp [IntKind.wrap, IntKind.bits, IntKind.signed]; omega

/-- All cells of the blocks that are there when the law begins count as published. -/
def startG (w : World) : Gh := { pub := fun b => match w.heap[b]? with | some (.cells c _ _) => c.size | _ => 0, n := 0, loc := fun _ => 0 }

theorem startG_cell {w : World} {b j : Nat} {v : Value} (h : w.cell? ⟨b, j, none⟩ = some v) : j < (startG w).pub b := by
  unfold World.cell? at h
  unfold startG
  simp only at h ⊢
  split at h
  · rename_i c e fr hb
    rw [hb]
    simp only [Option.isSome_none, Bool.false_eq_true, if_false] at h
    rcases Nat.lt_or_ge j c.size with h' | h'
    · exact h'
    · rw [Array.getElem?_eq_none h'] at h; cases h
  · cases h

theorem law_calls {P : Program} {f : FuncId} {S : Spec} (hd : Does P f S) {args : List AV} {w : World} {vs : Array Value} {v : Value} (hS : S args [] fun r _ => r = .v v)
    (hl : vs.size = args.length) (hr : ∀ j u, args[j]? = some u → Rep w (startG w) u (vs.getD j undef)) (hg : LaidG w (startG w)) :
    Calls P f vs w fun e w' => e = .returned v ∧ Below w.heap.size w w' := by
  have hh : HeapRep w (startG w) [] := ⟨rfl, fun i hi => absurd hi (Nat.not_lt_zero _), fun i j hi => absurd hi (Nat.not_lt_zero _), fun i o ho => by simp at ho⟩
  have hf : ∀ b, w.heap.size ≤ b → (startG w).pub b = 0 := fun b hb => by simp [startG, Array.getElem?_eq_none hb]
  refine (hd.2 args [] _ hS w (startG w) vs hl hr hh hf hg).mono ?_
  rintro e w' ⟨r, h', g', v', rfl, rfl, hres, -, hfr, -⟩
  refine ⟨?_, hfr.os, hfr.tape, hfr.output, hfr.size, fun k hk => hfr.block k hk fun i hi => absurd hi (Nat.not_lt_zero _)⟩
  have hres' : Rep w' g' (.v v) v' := hres
  rw [(rep_v hres').1]

/-- Of what a call answers something may be forgotten. -/
def Weak (S : Spec) : Spec := fun args h Q => S args h fun r h' => ∃ r', Ga r r' ∧ Q r' h'
theorem Does.weak {P : Program} {f : FuncId} {S : Spec} (hd : Does P f S) : Does P f (Weak S) := by
  refine ⟨hd.1, fun args h Q hS w g vs hvs hrep hh hf hlaid => (hd.2 args h _ hS w g vs hvs hrep hh hf hlaid).mono ?_⟩
  rintro e w' ⟨r, h', g', v, ⟨r', hga, hq⟩, he, hres, hrest⟩
  refine ⟨r', h', g', v, hq, he, ?_, hrest⟩
  have hr : ∀ x, Rep w' g' x v → ResRep w' g' w.heap.size x v := fun x hx => by
    have := rep_shared hx
    cases x <;> first | exact hx | (cases this)
  cases hga with
  | refl => exact hres
  | any => exact hr _ (.any v)
  | nil sz => exact hr _ (ga_rep (.nil sz) hres)
  | agg h => exact hr _ (ga_rep (.agg h) hres)
  | tup h => exact hr _ (ga_rep (.tup h) hres)
theorem Does.imp {P : Program} {f : FuncId} {S S' : Spec} (hd : Does P f S) (h : ∀ args h Q, S' args h Q → S args h Q) : Does P f S' :=
  ⟨hd.1, fun args hp Q hS => hd.2 args hp Q (h _ _ _ hS)⟩

/-- Bytes that came in. -/
theorem rep_bytes {w : World} {a : Option Addr} {len cap : Nat} {zs : List Int} (h : (a = none ∧ len = 0 ∧ cap = 0 ∧ zs = []) ∨
    ∃ x, a = some x ∧ len ≤ cap ∧ cap ≤ maxLen ∧ zs.length = cap ∧ (∀ i, i < zs.length → w.cell? (x.add i) = some (.int .u8 (zs.getD i 0))) ∧ ∀ n ∈ zs, (Lit.int .u8 n).wf = true) :
    ∃ l : List UInt8, l.length = len ∧ len ≤ maxLen ∧ Rep w (startG w) (.sl 1 (l.map encB)) (.slice a len cap) := by
  rcases h with ⟨rfl, rfl, rfl, rfl⟩ | ⟨x, rfl, hlc, hcm, hz, hcell, hwf⟩
  · exact ⟨[], rfl, Nat.zero_le _, .nil 1⟩
  · by_cases h0 : len = 0
    · subst h0; exact ⟨[], rfl, Nat.zero_le _, .empty 1 x cap hcm⟩
    · have hx : x = ⟨x.block, x.off, none⟩ := by
        have := hcell 0 (by omega)
        simp only [Addr.add, if_true] at this
        unfold World.cell? at this
        split at this
        · cases hs : x.spot with
          | none => cases x; simp_all
          | some y => simp [hs] at this
        · cases this
      refine ⟨(zs.take len).map fun n => UInt8.ofNat n.toNat, by simp; omega, by omega, ?_⟩
      have hget : ∀ j, j < len → ∃ n, zs[j]? = some n ∧ 0 ≤ n ∧ n < 256 := fun j hj => by
        have hj' : j < zs.length := by omega
        have := hwf _ (List.getElem_mem hj')
        simp [Lit.wf, IntKind.min, IntKind.max, IntKind.signed, IntKind.bits] at this
        exact ⟨_, List.getElem?_eq_getElem hj', by omega, by omega⟩
      have hflat : ∀ l : List UInt8, flat (l.map encB) = l.map encB := fun l => by
        induction l with
        | nil => rfl
        | cons y ys ih => simp only [flat, List.map_cons, List.flatMap_cons] at ih ⊢; rw [ih]; rfl
      have hlen : (((zs.take len).map fun n => UInt8.ofNat n.toNat).map encB).length = len := by simp; omega
      rw [hx]
      have key := Rep.sl (w := w) (g := startG w) (sz := 1) (xs := ((zs.take len).map fun n => UInt8.ofNat n.toNat).map encB) (b := x.block) (o := x.off) (c := cap) (fun j => .int .u8 (zs.getD j 0)) (by omega) hcm (by decide)
        (fun u hu => by obtain ⟨y, -, rfl⟩ := List.mem_map.1 hu; rfl) (fun j u hu => ?_) (fun j u hu => ?_)
      · rw [hlen] at key; exact key
      all_goals
        rw [hflat] at hu
        have hj : j < len := by
          rcases Nat.lt_or_ge j len with h' | h'
          · exact h'
          · rw [List.getElem?_eq_none (by rw [hlen]; exact h')] at hu; cases hu
      · have hc := hcell j (by omega)
        have e : x.add j = ⟨x.block, x.off + j, none⟩ := by
          unfold Addr.add; split
          · rename_i h0; subst h0; simpa using hx
          · rfl
        rw [e] at hc
        exact ⟨hc, startG_cell hc, rfl⟩
      · obtain ⟨n, hn, h0, h1⟩ := hget j hj
        simp only [List.getElem?_map, List.getElem?_take, hj, if_true, hn, Option.map_some, Option.some.injEq] at hu
        subst hu
        simp only [List.getD_eq_getElem?_getD, hn, Option.getD_some]
        have : ((UInt8.ofNat n.toNat).toNat : Int) = n := by
          rw [UInt8.toNat_ofNat']; omega
        unfold encB
        rw [this]
        exact .v rfl

/-- A type of one cell, that is no struct and no array. -/
def oneT (P : Program) (t : TypeId) : Bool :=
  match P.underlying t, szT P t with
  | some d, some _ => match d with
    | .struct _ | .array _ _ => false
    | _ => true
  | _, _ => false
theorem ofCells_one {P : Program} {t : TypeId} (h : oneT P t = true) (c : AV) (cs : List AV) (K : AV → Prop) : ofCells P t (c :: cs) K = K (val c) := by
  unfold oneT at h
  unfold ofCells
  cases hu : P.underlying t with
  | none => rw [hu] at h; cases h
  | some d =>
    cases hs : szT P t with
    | none => rw [hu, hs] at h; cases h
    | some n =>
      rw [hu, hs] at h
      cases d <;> first | (cases h; done) | simp
def aggN (P : Program) (t : TypeId) (n : Nat) : Bool :=
  match P.underlying t, szT P t with
  | some d, some m => match d with
    | .struct _ | .array _ _ => m == n
    | _ => false
  | _, _ => false
theorem ofCells_agg {P : Program} {t : TypeId} {n : Nat} (h : aggN P t n = true) (cs : List AV) (K : AV → Prop) : ofCells P t cs K = (n ≤ cs.length ∧ K (.agg (cs.take n))) := by
  unfold aggN at h
  unfold ofCells
  cases hu : P.underlying t with
  | none => rw [hu] at h; cases h
  | some d =>
    cases hs : szT P t with
    | none => rw [hu, hs] at h; cases h
    | some m =>
      rw [hu, hs] at h
      cases d <;> first | (cases h; done) | (have : m = n := by simpa using h
                                             subst this; rfl)

end Go.Vm
