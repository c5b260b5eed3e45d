/- Bytes compared; pairs sorted: by the kit's own walk. -/
import Derived.Test.YthfbpdipilajoaaGreatDoorL17
import Derived.Lib.Bytealg
import Derived.Lib.Strings
import Derived.Lib.Slices
import Derived.Lib.Walk
import Derived.Laws.Externs
import Derived.Sort.Grow
import Derived.WalkMore
import Derived.Shelf.SlSortCmp.NoneTotal
set_option linter.unusedSimpArgs false
set_option linter.unusedVariables false
namespace Go.Proofs.Lx
open Go.Vm Go.RowKit Go.Sort

/-- Bytes that lie in a world. -/
def BytesAt (W : World) (v : Value) (l : List UInt8) : Prop :=
  (l = [] ∧ ∃ a c, v = .slice a 0 c) ∨ ∃ b o c, v = .slice (some ⟨b, o, none⟩) l.length c ∧ ∀ j (hj : j < l.length), W.cell? ⟨b, o + j, none⟩ = some (.int .u8 l[j].toNat)

theorem BytesAt.ext {W W' : World} {v : Value} {l : List UInt8} (h : BytesAt W v l) (he : ∀ a x, W.cell? a = some x → W'.cell? a = some x) : BytesAt W' v l := by
  rcases h with h | ⟨b, o, c, hv, hc⟩
  · exact .inl h
  · exact .inr ⟨b, o, c, hv, fun j hj => he _ _ (hc j hj)⟩

theorem flat_encB : ∀ l : List UInt8, flat (l.map encB) = l.map encB := fun l => by
  induction l with
  | nil => rfl
  | cons y ys ih => simp only [flat, List.map_cons, List.flatMap_cons] at ih ⊢; rw [ih]; rfl

theorem bytesAt_rep {w : World} {g : Gh} {l : List UInt8} {v : Value} (h : Rep w g (.sl 1 (l.map encB)) v) : BytesAt w v l := by
  generalize hx : l.map encB = xs at h
  cases h with
  | nil => exact .inl ⟨List.map_eq_nil_iff.1 hx, _, _, rfl⟩
  | empty => exact .inl ⟨List.map_eq_nil_iff.1 hx, _, _, rfl⟩
  | @sl _ _ b o c vs hc hm hsz hu hr hs =>
    subst hx
    refine .inr ⟨b, o, c, by rw [List.length_map], fun j hj => ?_⟩
    have hget : (flat (l.map encB))[j]? = some (encB l[j]) := by rw [flat_encB, List.getElem?_map, List.getElem?_eq_getElem hj]; rfl
    have h1 := (hr j _ hget).1
    have h2 := hs j _ hget
    have h3 := (rep_v (x := .int .u8 l[j].toNat) h2).1
    rw [h1, h3]

theorem run_loadBytes {P : Program} {W : World} {b : Nat} : ∀ (l : List UInt8) (o : Nat) (acc : ByteArray), (∀ j (hj : j < l.length), W.cell? ⟨b, o + j, none⟩ = some (.int .u8 l[j].toNat)) →
    (Extern.Bytes.loadBytes ⟨b, o, none⟩ l.length acc).run P W = .ok (l.foldl ByteArray.push acc) W
  | [], o, acc, _ => by simp [Extern.Bytes.loadBytes]
  | x :: l, o, acc, h => by
    have h0 := h 0 (by simp)
    simp only [Nat.add_zero, List.getElem_cons_zero] at h0
    have ih := run_loadBytes (P := P) l (o + 1) (acc.push x) fun j hj => by
      have := h (j + 1) (by simpa using hj)
      simpa [Nat.add_assoc, Nat.add_comm 1] using this
    have hl : (load ⟨b, o, none⟩).run P W = .ok (.int .u8 x.toNat) W := by simp [load, Sem.run, h0]
    have ha : (⟨b, o, none⟩ : Addr).add 1 = ⟨b, o + 1, none⟩ := addr_add b o 1
    have hx : ((x.toNat : Int).toNat).toUInt8 = x := by rw [Int.toNat_natCast]; exact UInt8.ofNat_toNat
    simp only [List.length_cons, Extern.Bytes.loadBytes, Sem.run_bind, hl, Result.andThen_ok, ha, hx, ih, List.foldl_cons]

theorem push_all (l : List UInt8) : ∀ acc : ByteArray, (l.foldl ByteArray.push acc).data.toList = acc.data.toList ++ l := by
  induction l with
  | nil => intro acc; simp
  | cons x l ih => intro acc; rw [List.foldl_cons, ih]; simp [ByteArray.push]

theorem run_bytesOf {P : Program} {W : World} {v : Value} {l : List UInt8} (h : BytesAt W v l) : ∃ s : ByteArray, s.data.toList = l ∧ (Extern.Bytes.bytesOf v).run P W = .ok s W := by
  rcases h with ⟨rfl, a, c, rfl⟩ | ⟨b, o, c, rfl, hc⟩
  · cases a with
    | none => exact ⟨.empty, rfl, by simp [Extern.Bytes.bytesOf]⟩
    | some a => exact ⟨.empty, rfl, by simp [Extern.Bytes.bytesOf, Extern.Bytes.loadBytes]⟩
  · refine ⟨_, ?_, by simp only [Extern.Bytes.bytesOf]; exact run_loadBytes l o .empty hc⟩
    rw [push_all]; simp

theorem run_compare {P : Program} {W : World} {v1 v2 : Value} {a b : List UInt8} (h1 : BytesAt W v1 a) (h2 : BytesAt W v2 b) :
    (Extern.BytealgCompare.compare #[v1, v2]).run P W = .ok (.int .i64 (Lib.compareBytes a b)) W := by
  obtain ⟨s1, e1, r1⟩ := run_bytesOf (P := P) h1
  obtain ⟨s2, e2, r2⟩ := run_bytesOf (P := P) h2
  show (do pure (goInt (Extern.BytealgCompare.cmp (← Extern.Bytes.bytesOf v1) (← Extern.Bytes.bytesOf v2))) : Sem Value).run P W = _
  simp only [Sem.run_bind, r1, r2, Result.andThen_ok, Lib.cmp_eq, e1, e2, Sem.run_pure]
  rfl

set_option maxHeartbeats 1000000 in
set_option maxRecDepth 100000 in
theorem compare_calls (W : World) (v1 v2 : Value) (a b : List UInt8) (h1 : BytesAt W v1 a) (h2 : BytesAt W v2 b) :
    Calls Tryz.prog 125 #[v1, v2] W fun e w' => e = .returned (.int .i64 (Lib.compareBytes a b)) ∧ w' = W := by
  have hr := run_compare (P := Tryz.prog) h1 h2
  generalize Lib.compareBytes a b = r at hr ⊢
  go_enter Tryz.func125, Tryz.ntmps125
  go_wp2
  rw [run_callFunc_extern Tryz.func184 (by kernel_rfl) (by kernel_rfl) (by kernel_rfl) (e := Extern.BytealgCompare.compare) (by kernel_rfl), hr]
  simp only [Result.andThen]
  rw [Oper.upon_value]
  go_wp2
  go_ret
  exact ⟨rfl, rfl⟩

theorem ext_alloc (W : World) (o : Obj) : ∀ a x, W.cell? a = some x → (W.alloc o).cell? a = some x := fun a x h => by
  have hb : a.block < W.heap.size := World.block_lt_of_cell? W a h
  rw [World.cell?_of_block (Below.heap_alloc W o a.block hb)]; exact h

set_option maxHeartbeats 1000000 in
set_option maxRecDepth 100000 in
theorem closure_calls (W : World) (kx vx ky vy : Value) (a b : List UInt8) (h1 : BytesAt W kx a) (h2 : BytesAt W ky b) (o1 : kx.oneCell' = true) (o2 : vx.oneCell' = true) (o3 : ky.oneCell' = true) (o4 : vy.oneCell' = true) :
    Calls Tryz.prog 124 #[.agg #[kx, vx], .agg #[ky, vy]] W fun e w' => e = .returned (.int .i64 (Lib.compareBytes a b)) ∧ ∃ q os', w' = Sort.grow (W.drewN q) os' := by
  have hcon := fun W' (he : ∀ a x, W.cell? a = some x → W'.cell? a = some x) => compare_calls W' kx ky a b (h1.ext he) (h2.ext he)
  generalize Lib.compareBytes a b = r at hcon ⊢
  clear h1 h2
  go_enter Tryz.func124, Tryz.ntmps124
  go_wp2_with (go_at_call 125; refine (hcon _ (fun a x h => ext_alloc _ _ a x (ext_alloc _ _ a x h))).mono ?_; rintro e w' ⟨rfl, rfl⟩)
  go_ret
  exact ⟨rfl, 0, _, by rw [alloc_eq_grow, alloc_eq_grow, grow_grow]; rfl⟩

end Go.Proofs.Lx
