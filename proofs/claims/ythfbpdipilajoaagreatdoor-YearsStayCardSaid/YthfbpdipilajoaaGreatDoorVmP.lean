/- Operations that neither read nor write memory: what they answer, whatever the world. -/
import Derived.Test.YthfbpdipilajoaaGreatDoorVmL
set_option linter.unusedVariables false
set_option linter.unusedSimpArgs false
namespace Go.Vm
open Go.RowKit

section
variable {P : Program} {H : Hst} {w0 w w' : World} {g0 g g' gg : Gh} {s : Slots} {h h' : Heap} {a : Act} {o : Oper} {K : AV → Slots → Heap → Prop}

/-- What was published is there. -/
def Cells (w : World) (g : Gh) (w' : World) : Prop := ∀ b j v, j < g.pub b → w.cell? ⟨b, j, none⟩ = some v → w'.cell? ⟨b, j, none⟩ = some v

/-- It answers a value, whatever the world that has what was published; what holds then. -/
def Pw (P : Program) (o : Oper) (a : Act) (w : World) (g : Gh) (K : Act → World → Prop) : Prop :=
  ∃ v, (∀ w', Cells w g w' → (execOp a.eval o).run P w' = .ok (.value v) w') ∧ K (a.put o.dst v) w

theorem aft_valueP {N : Nat} {x : AV} {v : Value} (r : R H w0 g0 s h g a w) (hN : a.tmps.size = N) (hd : ∀ d, o.dst = some d → d < N)
    (hrun : ∀ w : World, (execOp a.eval o).run P w = .ok (.value v) w) (hx : slotRep w g w0.heap.size (tmOf a) x v)
    (hp : ∀ b, privB x v = some b → (∀ i, privB (s i) (tmOf a i) ≠ some b) ∧ ∀ k, k < g.n → g.loc k ≠ b) (hK : K x s h) :
    Pw P o a w gg (Aft N H w0 g0 o K) := by
  refine ⟨v, fun w' _ => hrun w', x, s, h, g, hK, ?_, by rw [size_put]; exact hN⟩
  cases ho : o.dst with
  | none => exact r
  | some d => exact r.put (by rw [hN]; exact hd d ho) hx fun b hb => ⟨fun i _ => (hp b hb).1 i, (hp b hb).2⟩

theorem aft_repP {N : Nat} {x : AV} {v : Value} (r : R H w0 g0 s h g a w) (hN : a.tmps.size = N) (hd : ∀ d, o.dst = some d → d < N)
    (hrun : ∀ w : World, (execOp a.eval o).run P w = .ok (.value v) w) (hx : Rep w g x v) (hK : K x s h) : Pw P o a w gg (Aft N H w0 g0 o K) :=
  aft_valueP r hN hd hrun (slotRep_of_rep (rep_shared hx) hx) (fun b hb => by rw [privB_shared (rep_shared hx)] at hb; cases hb) hK

theorem sound_moveP {N : Nat} {x : Operand} (ho : o.op = .move x) (r : R H w0 g0 s h g a w) (hN : a.tmps.size = N) (hd : ∀ d, o.dst = some d → d < N)
    (hK : K (mv s x) s h) : Pw P o a w gg (Aft N H w0 g0 o K) := by
  obtain ⟨h1, h2⟩ := r.mv x
  exact aft_valueP r hN hd (by simp [execOp, ho]) h1 (fun b hb => by rw [h2] at hb; cases hb) hK

theorem sound_pickP {N : Nat} {c x y : Operand} {t : Bool} (ho : o.op = .pick c x y) (r : R H w0 g0 s h g a w) (hN : a.tmps.size = N) (hd : ∀ d, o.dst = some d → d < N)
    (hc : ev s c = .v (.bool t)) (ht : t = true → K (val (ev s x)) s h) (hf : t = false → K (val (ev s y)) s h) : Pw P o a w gg (Aft N H w0 g0 o K) := by
  have he := r.eval c
  rw [hc] at he
  have hec : a.eval c = .bool t := (rep_v he).1
  cases t with
  | true => exact aft_repP r hN hd (by simp [execOp, ho, hec, asBool]) (r.eval_val x) (ht rfl)
  | false => exact aft_repP r hN hd (by simp [execOp, ho, hec, asBool]) (r.eval_val y) (hf rfl)

theorem sound_binP {N : Nat} {op : BinOp} {t t' : TypeId} {x y : Operand} (ho : o.op = .binOp op t x y t') (r : R H w0 g0 s h g a w) (hN : a.tmps.size = N) (hd : ∀ d, o.dst = some d → d < N)
    (hK : awpBin P op t (look s (ev s x)) (look s (ev s y)) fun v => K (.v v) s h) : Pw P o a w gg (Aft N H w0 g0 o K) := by
  have hx := r.look x
  have hy := r.look y
  have fin : ∀ v, (∀ w : World, (execOp a.eval o).run P w = .ok (.value v) w) → plain v = true → K (.v v) s h → Pw P o a w gg (Aft N H w0 g0 o K) := fun v hr hp hk => aft_repP r hN hd hr (.v hp) hk
  revert hK hx hy
  generalize look s (ev s x) = lx
  generalize look s (ev s y) = ly
  intro hK hx hy
  unfold awpBin at hK
  split at hK
  · rename_i k i k' j
    obtain ⟨ex, -⟩ := hx
    obtain ⟨ey, -⟩ := hy
    have hg : ∀ w : World, (eqGuard op t x y (.int k i) (.int k' j)).run P w = .ok () w := fun w => run_eqGuard_int op t x y _ _ _
    have hex : ∀ v, (∀ w : World, (binOp op t (.int k i) (.int k' j)).run P w = .ok v w) → ∀ w : World, (execOp a.eval o).run P w = .ok (.value v) w := fun v hv w => by
      simp [execOp, ho, ex, ey, hg, hv]
    split at hK
    · refine fin _ (hex _ ?_) rfl hK.2
      simp [binOp, Op.shift, Int.not_lt.2 hK.1]
    · refine fin _ (hex _ ?_) rfl hK.2
      simp [binOp, Op.shift, Int.not_lt.2 hK.1]
    · obtain ⟨rfl, hj, hK⟩ := hK
      refine fin _ (hex _ ?_) rfl hK
      simp [binOp, Op.intDiv, hj]
    · obtain ⟨rfl, hj, hK⟩ := hK
      refine fin _ (hex _ ?_) rfl hK
      simp [binOp, Op.intDiv, hj]
    · obtain ⟨rfl, hK⟩ := hK
      split at hK
      · rename_i v hv
        have hb : (∀ w : World, (binOp op t (.int k i) (.int k j)).run P w = .ok v w) ∧ plain v = true := by
          cases op <;> simp [intOp] at hv <;> (try subst hv) <;>
            (first | (simp_all; done) | (refine ⟨?_, rfl⟩; simp [binOp, Op.intArith, Op.intCmp, intBits_and, intBits_or, intBits_xor, intBits_andNot]))
        exact fin _ (hex _ hb.1) hb.2 hK
      · exact hK.elim
  · rename_i i j
    obtain ⟨ex, -⟩ := hx
    obtain ⟨ey, -⟩ := hy
    have hg : ∀ w : World, (eqGuard op t x y (.string i) (.string j)).run P w = .ok () w := fun w => run_eqGuard_string op t x y _ _
    have hex : ∀ v, (∀ w : World, (binOp op t (.string i) (.string j)).run P w = .ok v w) → ∀ w : World, (execOp a.eval o).run P w = .ok (.value v) w := fun v hv w => by
      simp [execOp, ho, ex, ey, hg, hv]
    split at hK
    · refine fin _ (hex _ ?_) rfl hK.2
      have h0 : ¬ ((i.size + j.size : Nat) : Int) > IntKind.i64.max := by
        have h1 := hK.1
        unfold maxLen at h1
        have : IntKind.i64.max = 9223372036854775807 := by decide
        omega
      simp only [binOp, Op.stringOp, h0, if_false, Sem.run_pure, implies_true]
    · refine fin _ (hex _ ?_) rfl hK
      simp [binOp, Op.stringOp]
    · refine fin _ (hex _ ?_) rfl hK
      simp [binOp, Op.stringOp]
    · refine fin _ (hex _ ?_) rfl hK
      simp [binOp, Op.stringOp]
    · refine fin _ (hex _ ?_) rfl hK
      simp [binOp, Op.stringOp]
    · refine fin _ (hex _ ?_) rfl hK
      simp [binOp, Op.stringOp]
    · refine fin _ (hex _ ?_) rfl hK
      simp [binOp, Op.stringOp]
    · exact hK.elim
  · rename_i i j
    obtain ⟨ex, -⟩ := hx
    obtain ⟨ey, -⟩ := hy
    have hg : ∀ w : World, (eqGuard op t x y (.bool i) (.bool j)).run P w = .ok () w := fun w => run_eqGuard_bool op t x y _ _
    have hex : ∀ v, (∀ w : World, (binOp op t (.bool i) (.bool j)).run P w = .ok v w) → ∀ w : World, (execOp a.eval o).run P w = .ok (.value v) w := fun v hv w => by
      simp [execOp, ho, ex, ey, hg, hv]
    obtain ⟨ht, hK⟩ := hK
    split at hK
    · refine fin _ (hex _ ?_) rfl hK
      simp only [binOp, Sem.run_bind, run_equal_bool t ht, Result.andThen_ok, Sem.run_pure, implies_true]
    · refine fin _ (hex _ ?_) rfl hK
      simp only [binOp, Sem.run_bind, run_equal_bool t ht, Result.andThen_ok, Sem.run_pure, implies_true]
    · exact hK.elim
  · exact hK.elim

theorem sound_convP {N : Nat} {t t' : TypeId} {x : Operand} (ho : o.op = .convert t t' x) (r : R H w0 g0 s h g a w) (hN : a.tmps.size = N) (hd : ∀ d, o.dst = some d → d < N)
    (hK : awpConv P t t' (ev s x) fun v => K v s h) : Pw P o a w gg (Aft N H w0 g0 o K) := by
  have hx := r.eval x
  unfold awpConv at hK
  split at hK
  · rename_i k n he
    rw [he] at hx
    have hex : a.eval x = .int k n := (rep_v hx).1
    split at hK
    · rename_i k' hu
      obtain ⟨hsrc, hK⟩ := hK
      obtain ⟨ds, hds⟩ := Option.ne_none_iff_exists'.1 hsrc
      refine aft_repP r hN hd ?_ (.v rfl) hK
      simp [execOp, ho, hex, convert, run_underlying hds, run_underlying hu, Conv.intToInt]
    · exact hK.elim
  · exact hK.elim

theorem sound_indexAddrP {N : Nat} {t : TypeId} {x i : Operand} {e sz : Nat} {xs : List AV} {k : IntKind} {n : Int} (ho : o.op = .indexAddr t x i) (r : R H w0 g0 s h g a w) (hN : a.tmps.size = N) (hd : ∀ d, o.dst = some d → d < N)
    (he : elemSz P t = some (e, sz)) (hx : asSl sz (ev s x) = some xs) (hi : ev s i = .v (.int k n)) (hb : 0 ≤ n ∧ n < xs.length)
    (hK : ∀ x, xs[n.toNat]? = some x → K (.eptr x.cells) s h) : Pw P o a w gg (Aft N H w0 g0 o K) := by
  obtain ⟨hu, inf, hinf, hsz⟩ := elemSz_spec he
  have hri := r.eval i
  rw [hi] at hri
  have hei : a.eval i = .int k n := (rep_v hri).1
  have hrx := asSl_rep hx (rep_of_slotRep (shared_asSl hx) (r.eval x))
  have hlt : n.toNat < xs.length := by omega
  obtain ⟨b, off, c, hex, hp, hl, -⟩ := rep_elem hrx (List.getElem?_eq_getElem hlt)
  refine aft_repP r hN hd ?_ hp (hK _ (List.getElem?_eq_getElem hlt))
  have hadd : (⟨b, off, none⟩ : Addr).add (n.toNat * sz) = ⟨b, off + n.toNat * sz, none⟩ := by
    unfold Addr.add; split
    · rename_i h0; rw [h0]; rfl
    · rfl
  simp [execOp, ho, hex, hei, Instr.indexAt, run_underlying hu, asIntOf, hb.1, hb.2, run_sizeOf hinf, hsz, hadd]

theorem sound_nilCheckP {N : Nat} {x : Operand} (ho : o.op = .nilCheck x) (r : R H w0 g0 s h g a w) (hN : a.tmps.size = N) (hd : ∀ d, o.dst = some d → d < N)
    (hK : awpNc (mv s x) fun v => K v s h) : Pw P o a w gg (Aft N H w0 g0 o K) := by
  have hm := (r.mv x).1
  have fin : ∀ ad, a.eval x = .pointer (some ad) → K (mv s x) s h → Pw P o a w gg (Aft N H w0 g0 o K) := fun ad he hk =>
    aft_valueP r hN hd (v := a.eval x) (by simp [execOp, ho, he]) hm (fun b hb => by rw [(r.mv x).2] at hb; cases hb) hk
  unfold awpNc at hK
  split at hK
  · rename_i k off he
    rw [he] at hm
    obtain ⟨b, -, hv⟩ := hm
    exact fin _ hv hK
  · rename_i cs he
    rw [he] at hm
    have hm' : Rep w g (.eptr cs) (a.eval x) := hm
    generalize hv : a.eval x = v at hm'
    cases hm' with
    | eptr vs hr hs => exact fin _ hv hK
  · rename_i i off he
    rw [he] at hm
    have hm' : Rep w g (.ptr i off) (a.eval x) := hm
    generalize hv : a.eval x = v at hm'
    cases hm' with
    | ptr _ _ hi => exact fin _ hv hK
  · rename_i k sz i off he
    rw [he] at hm
    obtain ⟨b, c, n, -, hv⟩ := hm
    exact fin _ hv hK
  · exact hK.elim

theorem sound_fieldAddrP {N : Nat} {t : TypeId} {x : Operand} {f : Nat} (ho : o.op = .fieldAddr t x f) (r : R H w0 g0 s h g a w) (hN : a.tmps.size = N) (hd : ∀ d, o.dst = some d → d < N)
    (hK : awpFa (fieldOf P t f) (mv s x) fun v => K v s h) : Pw P o a w gg (Aft N H w0 g0 o K) := by
  have hm := (r.mv x).1
  unfold awpFa at hK
  split at hK
  · rename_i off ty hf
    obtain ⟨fs, fd, i, hu, hfs, rfl, rfl, hi, h0⟩ := fieldOf_spec hf
    have hrun : ∀ b o', a.eval x = .pointer (some ⟨b, o', none⟩) → ∀ w : World, (execOp a.eval o).run P w = .ok (.value (.pointer (some ⟨b, o' + fd.offset, none⟩))) w := fun b o' he w => by
      have hne : ¬ i.size = 0 := by omega
      simp [execOp, ho, he, Instr.fieldAt, run_underlying hu, hfs, Instr.sureAddr, fieldPlace, run_sizeOf hi, hne, addr_add]
    split at hK
    · rename_i k off he
      rw [he] at hm
      obtain ⟨b, hb, hv⟩ := hm
      exact aft_valueP r hN hd (hrun b off hv) (x := .place k (off + fd.offset)) ⟨b, hb, rfl⟩ (fun b hb => by cases hb) hK
    · rename_i cs he
      rw [he] at hm
      have hm' : Rep w g (.eptr cs) (a.eval x) := hm
      generalize hv : a.eval x = v at hm'
      cases hm' with
      | @eptr _ b off vs hr hs =>
        refine aft_repP r hN hd (hrun b off hv) (.eptr (fun j => vs (fd.offset + j)) (fun j u hj => ?_) (fun j u hj => ?_)) hK
        · rw [List.getElem?_drop] at hj
          rw [Nat.add_assoc]; exact hr _ _ hj
        · rw [List.getElem?_drop] at hj; exact hs _ _ hj
    · rename_i k off he
      rw [he] at hm
      have hm' : Rep w g (.ptr k off) (a.eval x) := hm
      generalize hv : a.eval x = v at hm'
      cases hm' with
      | ptr _ _ hi => exact aft_repP r hN hd (hrun _ off hv) (.ptr k _ hi) hK
    · rename_i k sz i off he
      rw [he] at hm
      obtain ⟨b, c, n, hb, hv⟩ := hm
      exact aft_valueP r hN hd (hrun b _ hv) (x := .elt k sz i (off + fd.offset)) ⟨b, c, n, hb, by rw [Nat.add_assoc]⟩ (fun b hb => by cases hb) hK
    · exact hK.elim
  · exact hK.elim

theorem sound_extractSP {N : Nat} {tt : Operand} {i : Nat} (ho : o.op = .extract tt i) (r : R H w0 g0 s h g a w) (hN : a.tmps.size = N) (hd : ∀ d, o.dst = some d → d < N)
    (hK : awpExtS s (mv s tt) i fun v => K v s h) : Pw P o a w gg (Aft N H w0 g0 o K) := by
  obtain ⟨hm, -⟩ := r.mv tt
  have tup : ∀ (vs : List AV) (us : Array Value), a.eval tt = .tuple us → us.size = vs.length → (∀ j u, vs[j]? = some u → Rep w g u (us.getD j undef)) → i < vs.length → (∀ v, vs[i]? = some v → K (val v) s h) →
      Pw P o a w gg (Aft N H w0 g0 o K) := fun vs us hv hl hs hi hk => by
    have hu := hs i _ (List.getElem?_eq_getElem hi)
    refine aft_repP r hN hd (x := val vs[i]) (v := us.getD i undef) (by simp [execOp, ho, hv, Instr.extract, show i < us.size by omega, Array.getD]) ?_ (hk _ (List.getElem?_eq_getElem hi))
    exact rep_val (B := 0) (tm := fun _ => undef) (slotRep_of_rep (rep_shared hu) hu)
  unfold awpExtS at hK
  split at hK
  · rename_i k hmk
    rw [hmk] at hm
    have hev : a.eval tt = tmOf a k := hm
    have hsk := r.slots k
    unfold extAl at hK
    split at hK
    · rename_i i' m e sz xs rest hek
      rw [hek] at hsk
      obtain ⟨us, hus, hl, hs, hown⟩ := hsk
      have hus' : a.eval tt = .tuple us := hev.trans hus
      split at hK
      · rename_i hii
        subst hii
        have hi : i' < us.size := by
          rcases Nat.lt_or_ge i' us.size with h' | h'
          · exact h'
          · exfalso
            have : us.getD i' undef = undef := by simp [Array.getD_eq_getD_getElem?, Array.getElem?_eq_none h']
            rw [this] at hown
            obtain ⟨-, -, vs, ⟨-, h3⟩, -⟩ := hown
            rcases h3 with ⟨h3, -⟩ | ⟨gb, cap, cur, h3, -⟩ <;> cases h3
        refine aft_valueP r hN hd (x := .part k i') (v := us.getD i' undef) (by simp [execOp, ho, hus', Instr.extract, hi, Array.getD]) ⟨us, hus, rfl⟩ (fun b hb => by simp [privB] at hb) hK
      · exact tup rest us hus' hl hs hK.1 hK.2
    · rename_i vs hek
      rw [hek] at hsk
      have hsk' : Rep w g (.tup vs) (tmOf a k) := hsk
      unfold awpExt at hK
      generalize htk : tmOf a k = v at hsk' hev
      cases hsk' with
      | @tup _ us hl hs => exact tup vs us hev hl hs hK.1 hK.2
    · exact hK.elim
  · unfold awpExt at hK
    split at hK
    · rename_i vs hmv
      rw [hmv] at hm
      have hm' : Rep w g (.tup vs) (a.eval tt) := hm
      generalize hv : a.eval tt = v at hm'
      cases hm' with
      | @tup _ us hl hs => exact tup vs us hv hl hs hK.1 hK.2
    · exact hK.elim

theorem sound_builtinP {N : Nat} {b : Builtin} {ts : Array TypeId} {os : Array Operand} (ho : o.op = .call { callee := .builtin b, args := os, argTypes := ts }) (r : R H w0 g0 s h g a w) (hN : a.tmps.size = N) (hd : ∀ d, o.dst = some d → d < N)
    (hK : awpBuiltin P b ts os.toList s h K) : Pw P o a w gg (Aft N H w0 g0 o K) := by
  unfold awpBuiltin at hK
  have hargs : ∀ (l : List Operand), os.toList = l → os.map a.eval = (l.map a.eval).toArray := fun l hl => by subst hl; apply Array.ext'; simp
  split at hK
  · rename_i o' hos
    have hl := r.look o'
    have hA := hargs _ hos
    unfold lenA at hK
    split at hK
    · rename_i bs he
      rw [he] at hl
      obtain ⟨ht, hK⟩ := hK
      obtain ⟨t0, ht0, htu⟩ := Option.bind_eq_some_iff.1 ht
      refine aft_repP r hN hd ?_ (.v rfl) hK
      simp [execOp, ho, resolve, invoke, builtin, hA, hl.1, Builtin.len_, ht0, run_underlying htu, goInt]
    · rename_i he
      rw [he] at hl
      obtain ⟨ht, hK⟩ := hK
      obtain ⟨d, hd', hm⟩ := (Option.any_eq_true _ _).1 ht
      obtain ⟨t0, ht0, htu⟩ := Option.bind_eq_some_iff.1 hd'
      refine aft_repP r hN hd ?_ (.v rfl) hK
      cases d <;> simp at hm
      simp [execOp, ho, resolve, invoke, builtin, hA, hl.1, Builtin.len_, ht0, run_underlying htu, goInt]
    · rename_i sz xs he
      rw [he] at hl
      obtain ⟨bb, n, c, hev, hn, -⟩ := hl
      obtain ⟨ht, hK⟩ := hK
      obtain ⟨d, hd', hm⟩ := (Option.any_eq_true _ _).1 ht
      obtain ⟨t0, ht0, htu⟩ := Option.bind_eq_some_iff.1 hd'
      refine aft_repP r hN hd ?_ (.v rfl) hK
      cases d <;> simp at hm
      simp [execOp, ho, resolve, invoke, builtin, hA, hev, Builtin.len_, ht0, run_underlying htu, goInt, hn]
    · rename_i id off m cc he
      rw [he] at hl
      obtain ⟨bb, n, c, hev, hn, -⟩ := hl
      obtain ⟨ht, hK⟩ := hK
      obtain ⟨d, hd', hm⟩ := (Option.any_eq_true _ _).1 ht
      obtain ⟨t0, ht0, htu⟩ := Option.bind_eq_some_iff.1 hd'
      refine aft_repP r hN hd ?_ (.v rfl) hK
      cases d <;> simp at hm
      simp [execOp, ho, resolve, invoke, builtin, hA, hev, Builtin.len_, ht0, run_underlying htu, goInt, hn]
    · exact hK.elim
  · rename_i x y hos
    have hA := hargs _ hos
    have hx := r.eval x
    have hy := r.eval y
    unfold maxA at hK
    split at hK
    · rename_i k i k' j ex ey
      rw [ex] at hx; rw [ey] at hy
      obtain ⟨rfl, hK⟩ := hK
      refine aft_repP r hN hd ?_ (.v rfl) hK
      simp [execOp, ho, resolve, invoke, builtin, hA, (rep_v hx).1, (rep_v hy).1, run_max_int2]
    · exact hK.elim
  · rename_i x y hos
    have hA := hargs _ hos
    have hx := r.eval x
    have hy := r.eval y
    unfold minA at hK
    split at hK
    · rename_i k i k' j ex ey
      rw [ex] at hx; rw [ey] at hy
      obtain ⟨rfl, hK⟩ := hK
      refine aft_repP r hN hd ?_ (.v rfl) hK
      simp [execOp, ho, resolve, invoke, builtin, hA, (rep_v hx).1, (rep_v hy).1, run_min_int2]
    · exact hK.elim
  · exact hK.elim

theorem sound_unP {N : Nat} {op : UnOp} {t : TypeId} {x : Operand} (ho : o.op = .unOp op t x) (r : R H w0 g0 s h g a w) (hN : a.tmps.size = N) (hd : ∀ d, o.dst = some d → d < N)
    (hK : awpUn op (ev s x) fun v => K (.v v) s h) : Pw P o a w gg (Aft N H w0 g0 o K) := by
  have hx := r.eval x
  unfold awpUn at hK
  split at hK
  · rename_i b he
    rw [he] at hx
    exact aft_repP r hN hd (by simp [execOp, ho, (rep_v hx).1, Op.unary]) (.v rfl) hK
  · rename_i k n he
    rw [he] at hx
    exact aft_repP r hN hd (by simp [execOp, ho, (rep_v hx).1, Op.unary, Op.intArith]) (.v rfl) hK
  · rename_i k n he
    rw [he] at hx
    exact aft_repP r hN hd (by simp [execOp, ho, (rep_v hx).1, Op.unary, intBits_xor]) (.v rfl) hK
  · exact hK.elim

theorem sound_sliceP {N : Nat} {t : TypeId} {x : Operand} {lo hi mx : Option Operand} (ho : o.op = .slice t x lo hi mx) (r : R H w0 g0 s h g a w) (hN : a.tmps.size = N) (hd : ∀ d, o.dst = some d → d < N)
    (hK : awpSlice P t (frz s x).1 (lo.map (ev s)) (hi.map (ev s)) (mx.map (ev s)) fun v => K v (frz s x).2 h) : Pw P o a w gg (Aft N H w0 g0 o K) := by
  obtain ⟨g1, r1, k1, p1, n1⟩ := r.frz x
  unfold awpSlice at hK
  split at hK
  · rename_i sz xs hx
    rw [hx] at p1
    split at hK
    · rename_i e sz' l m hes hl hm
      obtain ⟨rfl, ⟨h0, h1, h2⟩, hmx, hK⟩ := hK
      obtain ⟨hu, inf, hinf, hisz⟩ := elemSz_spec hes
      obtain ⟨b, c, hv, hc⟩ := rep_sl_shape p1
      rw [hv] at p1
      have hue : P.underlying t = some (.slice (P.elem t)) := by
        have : P.elem t = e := by simp [Program.elem, hu]
        rw [this]; exact hu
      have hse : ∀ w : World, (sizeOf (P.elem t)).run P w = .ok sz' w := fun w => by
        have : P.elem t = e := by simp [Program.elem, hu]
        rw [this, run_sizeOf hinf, hisz]
      have fin : ∀ k : Nat, m.toNat ≤ k → k ≤ c → (∀ w : World, (Instr.sliceAt t (a.eval x) (lo.map a.eval) (hi.map a.eval) (mx.map a.eval)).run P w = .ok (sliced b l.toNat m.toNat k sz') w) → Pw P o a w gg (Aft N H w0 g0 o K) := by
        intro k hk hkc hrun
        refine aft_valueP r1 hN hd (fun w => by simp only [execOp, ho, Sem.run_bind, hrun w, Result.andThen_ok]; rfl) (slotRep_of_rep rfl (rep_slice p1 l.toNat m.toNat k (by omega) (by omega) hk hkc)) (fun b hb => by cases hb) hK
      rw [hv] at fin
      simp only [run_sliceAt_slice _ t _ _ _ _ hue] at fin
      rcases bound_val r hl with ⟨hlo, rfl⟩ | ⟨yl, kl, hlo, hel⟩ <;> rcases bound_val r hm with ⟨hhi, rfl⟩ | ⟨yh, kh, hhi, heh⟩ <;> subst hlo <;> subst hhi
      · cases mx with
        | none =>
          refine fin c (by omega) (Nat.le_refl _) fun w => ?_
          rw [show Option.map a.eval none = none from rfl, run_slice_all w t b xs.length c hue, hse]; simp
        | some y => simp at hmx
      · cases mx with
        | none =>
          refine fin c (by omega) (Nat.le_refl _) fun w => ?_
          simp only [Option.map_none, Option.map_some, heh]
          rw [run_slice_h w t b xs.length c hue kh m (by omega) (by omega), hse]; rfl
        | some y => simp at hmx
      · cases mx with
        | none =>
          refine fin c (by omega) (Nat.le_refl _) fun w => ?_
          simp only [Option.map_none, Option.map_some, hel]
          rw [run_slice_l w t b xs.length c hue kl l (by omega) (by omega), hse]; simp
        | some y => simp at hmx
      · cases mx with
        | none =>
          refine fin c (by omega) (Nat.le_refl _) fun w => ?_
          simp only [Option.map_none, Option.map_some, hel, heh]
          rw [run_slice_lh w t b xs.length c hue kl kh l m h0 h1 (by omega), hse]; rfl
        | some y =>
          simp only [Option.map_some] at hmx
          obtain ⟨-, -, hmx⟩ := hmx
          split at hmx
          · rename_i q hq
            have hq' : boundOf 0 ((some y).map (ev s)) = some q := hq
            rcases bound_val r hq' with ⟨e, -⟩ | ⟨ym, km, hym, hem⟩
            · cases e
            · cases hym
              refine fin q.toNat (by omega) (by omega) fun w => ?_
              simp only [Option.map_some, hel, heh, hem]
              rw [run_slice_lhm w t b xs.length c hue kl kh km l m q h0 h1 hmx.1 (by omega), hse]; rfl
          · exact hmx.elim
    · exact hK.elim
  · rename_i id off n c hx
    rw [hx] at p1
    split at hK
    · rename_i e sz' l m hes hl hm
      obtain ⟨hmx, ⟨h0, h1, h2⟩, hK1, hK2⟩ := hK
      have hmx' : mx = none := by cases mx <;> simp_all
      subst hmx'
      obtain ⟨hu, inf, hinf, hisz⟩ := elemSz_spec hes
      generalize hv : a.eval x = v at p1
      have hue : P.underlying t = some (.slice (P.elem t)) := by
        have : P.elem t = e := by simp [Program.elem, hu]
        rw [this]; exact hu
      have hse : ∀ w : World, (sizeOf (P.elem t)).run P w = .ok sz' w := fun w => by
        have : P.elem t = e := by simp [Program.elem, hu]
        rw [this, run_sizeOf hinf, hisz]
      cases p1 with
      | osl _ _ _ _ hid hc hcm =>
        have fin : (∀ w : World, (Instr.sliceAt t (a.eval x) (lo.map a.eval) (hi.map a.eval) none).run P w = .ok (sliced (some ⟨g1.loc id, off, none⟩) l.toNat m.toNat c sz') w) → Pw P o a w gg (Aft N H w0 g0 o K) := by
          intro hrun
          by_cases hlc : l = 0 ∨ l < c
          · refine aft_valueP r1 hN hd (fun w => by simp only [execOp, ho, Sem.run_bind, Option.map_none, hrun w, Result.andThen_ok]; rfl) (slotRep_of_rep rfl ?_) (fun b hb => by cases hb) (hK1 hlc)
            have he : sliced (some ⟨g1.loc id, off, none⟩) l.toNat m.toNat c sz' = .slice (some ⟨g1.loc id, off + l.toNat * sz', none⟩) (m.toNat - l.toNat) (c - l.toNat) := by
              unfold sliced
              by_cases hcl : c = l.toNat
              · have hl0 : l = 0 := by omega
                subst hl0; simp [hcl]
              · simp [hcl, addr_add]
            rw [he]
            exact .osl id _ _ _ hid (by omega) (by omega)
          · refine aft_valueP r1 hN hd (fun w => by simp only [execOp, ho, Sem.run_bind, Option.map_none, hrun w, Result.andThen_ok]; rfl) (slotRep_of_rep rfl ?_) (fun b hb => by cases hb) (hK2 hlc)
            have he : sliced (some ⟨g1.loc id, off, none⟩) l.toNat m.toNat c sz' = .slice (some ⟨g1.loc id, off, none⟩) 0 0 := by
              unfold sliced
              have hcl : c = l.toNat := by omega
              have hml : m.toNat = l.toNat := by omega
              simp [hcl, hml]
            rw [he]
            exact .empty sz' _ 0 (Nat.zero_le _)
        rw [hv] at fin
        simp only [run_sliceAt_slice _ t _ _ _ _ hue] at fin
        rcases bound_val r hl with ⟨hlo, rfl⟩ | ⟨yl, kl, hlo, hel⟩ <;> rcases bound_val r hm with ⟨hhi, rfl⟩ | ⟨yh, kh, hhi, heh⟩ <;> subst hlo <;> subst hhi
        · refine fin fun w => ?_
          rw [show Option.map a.eval none = none from rfl, run_slice_all w t _ n c hue, hse]; simp
        · refine fin fun w => ?_
          simp only [Option.map_none, Option.map_some, heh]
          rw [run_slice_h w t _ n c hue kh m (by omega) (by omega), hse]; rfl
        · refine fin fun w => ?_
          simp only [Option.map_none, Option.map_some, hel]
          rw [run_slice_l w t _ n c hue kl l (by omega) (by omega), hse]; simp
        · refine fin fun w => ?_
          simp only [Option.map_none, Option.map_some, hel, heh]
          rw [run_slice_lh w t _ n c hue kl kh l m h0 h1 (by omega), hse]; rfl
    · exact hK.elim
  · rename_i bs hx
    rw [hx] at p1
    have hv := (rep_v p1).1
    split at hK
    · rename_i l m hl hm
      obtain ⟨hu, hmx, ⟨h0, h1, h2⟩, hK⟩ := hK
      have hmx' : mx = none := by cases mx <;> simp_all
      subst hmx'
      have fin : (∀ w : World, (Instr.sliceAt t (.string bs) (lo.map a.eval) (hi.map a.eval) none).run P w = .ok (.string (bs.extract l.toNat m.toNat)) w) → Pw P o a w gg (Aft N H w0 g0 o K) := by
        intro hrun
        refine aft_valueP r1 hN hd (fun w => by simp only [execOp, ho, Sem.run_bind, hv, Option.map_none, hrun w, Result.andThen_ok]; rfl) (slotRep_of_rep rfl (.v rfl)) (fun b hb => by cases hb) hK
      simp only [run_sliceAt_string _ t _ _ _ _ hu] at fin
      rcases bound_val r hl with ⟨hlo, rfl⟩ | ⟨yl, kl, hlo, hel⟩ <;> rcases bound_val r hm with ⟨hhi, rfl⟩ | ⟨yh, kh, hhi, heh⟩ <;> subst hlo <;> subst hhi <;> refine fin fun w => ?_
      · simp_all [Instr.slice, run_underlying hu, Instr.sliceBounds, run_sliceBound]
      · simp_all [Instr.slice, run_underlying hu, Instr.sliceBounds, run_sliceBound]
      · simp_all [Instr.slice, run_underlying hu, Instr.sliceBounds, run_sliceBound]
      · have e1 := run_sliceBound (P := P) w kh m bs.size .sliceAlen (by omega) h2
        have e2 := run_sliceBound (P := P) w kl l m.toNat .sliceB h0 (by omega)
        simp only [Option.map_some, hel, heh]
        simp [Instr.slice, run_underlying hu, Instr.sliceBounds, e1, e2]
    · exact hK.elim
  · exact hK.elim

end
end Go.Vm
