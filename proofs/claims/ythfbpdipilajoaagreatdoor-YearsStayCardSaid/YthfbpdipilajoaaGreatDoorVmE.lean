/- Each operation does what the interpreter says of it. -/
import Derived.Test.YthfbpdipilajoaaGreatDoorVmD
set_option linter.unusedVariables false
set_option linter.unusedSimpArgs false
namespace Go.Vm
open Go.RowKit

section
variable {P : Program} {H : Hst} {w0 w : World} {g0 g : Gh} {s : Slots} {h : Heap} {a : Act} {o : Oper} {K : AV → Slots → Heap → Prop} {Q : Exit → Act → World → Prop}

/-- What is kept beside the relation: how many slots there are. -/
def Aft (N : Nat) (H : Hst) (w0 : World) (g0 : Gh) (o : Oper) (K : AV → Slots → Heap → Prop) : Act → World → Prop := fun a' w' =>
  ∃ x s' h' g', K x s' h' ∧ R H w0 g0 (putD o.dst s' x) h' g' a' w' ∧ a'.tmps.size = N

theorem size_put (a : Act) (d : Option Tmp) (v : Value) : (a.put d v).tmps.size = a.tmps.size := by
  unfold Act.put; split <;> simp

/-- An operation that leaves the world alone. -/
theorem aft_value {N : Nat} {x : AV} {v : Value} (r : R H w0 g0 s h g a w) (hN : a.tmps.size = N) (hd : ∀ d, o.dst = some d → d < N)
    (hrun : (execOp a.eval o).run P w = .ok (.value v) w) (hx : slotRep w g w0.heap.size (tmOf a) x v)
    (hp : ∀ b, privB x v = some b → (∀ i, privB (s i) (tmOf a i) ≠ some b) ∧ ∀ k, k < g.n → g.loc k ≠ b) (hK : K x s h) :
    o.wp P a w (Aft N H w0 g0 o K) Q := by
  unfold Oper.wp
  rw [hrun, Oper.upon_value]
  refine ⟨x, s, h, g, hK, ?_, by rw [size_put]; exact hN⟩
  cases ho : o.dst with
  | none => exact r
  | some d => exact r.put (by rw [hN]; exact hd d ho) hx fun b hb => ⟨fun i _ => (hp b hb).1 i, (hp b hb).2⟩

theorem aft_rep {N : Nat} {x : AV} {v : Value} (r : R H w0 g0 s h g a w) (hN : a.tmps.size = N) (hd : ∀ d, o.dst = some d → d < N)
    (hrun : (execOp a.eval o).run P w = .ok (.value v) w) (hx : Rep w g x v) (hK : K x s h) : o.wp P a w (Aft N H w0 g0 o K) Q :=
  aft_value r hN hd hrun (slotRep_of_rep (rep_shared hx) hx) (fun b hb => by rw [privB_shared (rep_shared hx)] at hb; cases hb) hK

theorem rep_v {w : World} {g : Gh} {x v : Value} (h : Rep w g (.v x) v) : v = x ∧ plain x = true := by
  cases h with | v h => exact ⟨rfl, h⟩

theorem R.look (r : R H w0 g0 s h g a w) (o : Operand) : 
    match Vm.look s (ev s o) with
    | .sl _ xs => ∃ b n c, a.eval o = .slice b n c ∧ n = xs.length ∧ n ≤ maxLen
    | .osl _ _ m _ => ∃ b n c, a.eval o = .slice b n c ∧ n = m ∧ n ≤ maxLen
    | .v x => a.eval o = x ∧ plain x = true
    | _ => True := by
  have hv := r.eval o
  have own : ∀ (m : Bool) (e sz : Nat) (xs : List AV) (v : Value), OwnRep w g w0.heap.size m e sz xs v → ∃ b n c, v = .slice b n c ∧ n = xs.length ∧ n ≤ maxLen := by
    rintro m e sz xs v ⟨-, -, vs, ⟨-, h3⟩, -⟩
    rcases h3 with ⟨rfl, h0⟩ | ⟨gb, cap, cur, rfl, -, -, a3, a4, -⟩
    · exact ⟨_, _, _, rfl, h0.symm, Nat.zero_le _⟩
    · exact ⟨_, _, _, rfl, rfl, Nat.le_trans a3 a4⟩
  cases hx : ev s o with
  | own m e sz xs => rw [hx] at hv; exact own m e sz xs _ hv
  | alias k =>
    rw [hx] at hv
    have hk := r.slots k
    cases hsk : s k with
    | own m e sz xs =>
      rw [hsk] at hk
      simp only [Vm.look, hsk, lookAl]
      rw [show a.eval o = tmOf a k from hv]
      exact own m e sz xs _ hk
    | _ => simp only [Vm.look, hsk, lookAl]
  | v y =>
    rw [hx] at hv
    exact rep_v hv
  | sl sz xs =>
    rw [hx] at hv
    generalize a.eval o = v at hv
    cases hv with
    | nil => exact ⟨_, _, _, rfl, rfl, Nat.zero_le _⟩
    | empty => exact ⟨_, _, _, rfl, rfl, Nat.zero_le _⟩
    | sl vs hc hm => exact ⟨_, _, _, rfl, rfl, Nat.le_trans hc hm⟩
  | osl id off n c =>
    rw [hx] at hv
    have hv' : Rep w g (.osl id off n c) (a.eval o) := hv
    generalize a.eval o = v at hv'
    cases hv' with
    | osl _ _ _ _ _ hc hm => exact ⟨_, _, _, rfl, rfl, Nat.le_trans hc hm⟩
  | _ => trivial

theorem sound_move {N : Nat} {x : Operand} (ho : o.op = .move x) (r : R H w0 g0 s h g a w) (hN : a.tmps.size = N) (hd : ∀ d, o.dst = some d → d < N)
    (hK : K (mv s x) s h) : o.wp P a w (Aft N H w0 g0 o K) Q := by
  obtain ⟨h1, h2⟩ := r.mv x
  exact aft_value r hN hd (by simp [execOp, ho]) h1 (fun b hb => by rw [h2] at hb; cases hb) hK

theorem sound_assign {N : Nat} {x : Operand} (ho : o.op = .assign x) (r : R H w0 g0 s h g a w) (hN : a.tmps.size = N) (hd : ∀ d, o.dst = some d → d < N)
    (hK : K (tk s x).1 (tk s x).2 h) : o.wp P a w (Aft N H w0 g0 o K) Q := by
  obtain ⟨h1, h2⟩ := r.tk x
  exact aft_value (r.le (le_tk s x)) hN hd (by simp [execOp, ho]) h1 h2 hK

theorem sound_pick {N : Nat} {c x y : Operand} {t : Bool} (ho : o.op = .pick c x y) (r : R H w0 g0 s h g a w) (hN : a.tmps.size = N) (hd : ∀ d, o.dst = some d → d < N)
    (hc : ev s c = .v (.bool t)) (ht : t = true → K (val (ev s x)) s h) (hf : t = false → K (val (ev s y)) s h) : o.wp P a w (Aft N H w0 g0 o K) Q := by
  have he := r.eval c
  rw [hc] at he
  have hec : a.eval c = .bool t := (rep_v he).1
  cases t with
  | true => exact aft_rep r hN hd (by simp [execOp, ho, hec, asBool]) (r.eval_val x) (ht rfl)
  | false => exact aft_rep r hN hd (by simp [execOp, ho, hec, asBool]) (r.eval_val y) (hf rfl)

theorem run_eqGuard_int (op : BinOp) (t : TypeId) (x y : Operand) (k : IntKind) (i : Int) (v : Value) : (eqGuard op t x y (.int k i) v).run P w = .ok () w := by cases op <;> rfl
theorem run_eqGuard_string (op : BinOp) (t : TypeId) (x y : Operand) (i : ByteArray) (v : Value) : (eqGuard op t x y (.string i) v).run P w = .ok () w := by cases op <;> rfl
theorem run_eqGuard_bool (op : BinOp) (t : TypeId) (x y : Operand) (i : Bool) (v : Value) : (eqGuard op t x y (.bool i) v).run P w = .ok () w := by cases op <;> rfl

theorem run_equalIn_bool (d : Nat) (t : TypeId) (ht : P.underlying t = some .bool) (i j : Bool) : (Op.equalIn (d + 1) t (.bool i) (.bool j)).run P w = .ok (i == j) w := by
  simp [Op.equalIn, run_underlying ht]
theorem run_equal_bool (t : TypeId) (ht : P.underlying t = some .bool) (i j : Bool) : (Op.equal t (.bool i) (.bool j)).run P w = .ok (i == j) w := run_equalIn_bool 9999 t ht i j

theorem sound_bin {N : Nat} {op : BinOp} {t t' : TypeId} {x y : Operand} (ho : o.op = .binOp op t x y t') (r : R H w0 g0 s h g a w) (hN : a.tmps.size = N) (hd : ∀ d, o.dst = some d → d < N)
    (hK : awpBin P op t (look s (ev s x)) (look s (ev s y)) fun v => K (.v v) s h) : o.wp P a w (Aft N H w0 g0 o K) Q := by
  have hx := r.look x
  have hy := r.look y
  have fin : ∀ v, (execOp a.eval o).run P w = .ok (.value v) w → plain v = true → K (.v v) s h → o.wp P a w (Aft N H w0 g0 o K) Q := fun v hr hp hk => aft_rep r hN hd hr (.v hp) hk
  revert hK hx hy
  generalize look s (ev s x) = lx
  generalize look s (ev s y) = ly
  intro hK hx hy
  unfold awpBin at hK
  split at hK
  · rename_i k i k' j
    obtain ⟨ex, -⟩ := hx
    obtain ⟨ey, -⟩ := hy
    have hg : (eqGuard op t x y (.int k i) (.int k' j)).run P w = .ok () w := run_eqGuard_int op t x y _ _ _
    have hex : ∀ v, (binOp op t (.int k i) (.int k' j)).run P w = .ok v w → (execOp a.eval o).run P w = .ok (.value v) w := fun v hv => by
      simp [execOp, ho, ex, ey, hg, hv]
    split at hK
    · refine fin _ (hex _ ?_) rfl hK.2
      simp [binOp, Op.shift, Int.not_lt.2 hK.1]
    · refine fin _ (hex _ ?_) rfl hK.2
      simp [binOp, Op.shift, Int.not_lt.2 hK.1]
    · obtain ⟨rfl, hj, hK⟩ := hK
      refine fin _ (hex _ ?_) rfl hK
      simp [binOp, Op.intDiv, hj]
    · obtain ⟨rfl, hj, hK⟩ := hK
      refine fin _ (hex _ ?_) rfl hK
      simp [binOp, Op.intDiv, hj]
    · obtain ⟨rfl, hK⟩ := hK
      split at hK
      · rename_i v hv
        have hb : (binOp op t (.int k i) (.int k j)).run P w = .ok v w ∧ plain v = true := by
          cases op <;> simp [intOp] at hv <;> (try subst hv) <;>
            (first | (simp_all; done) | (refine ⟨?_, rfl⟩; simp [binOp, Op.intArith, Op.intCmp, intBits_and, intBits_or, intBits_xor, intBits_andNot]))
        exact fin _ (hex _ hb.1) hb.2 hK
      · exact hK.elim
  · rename_i i j
    obtain ⟨ex, -⟩ := hx
    obtain ⟨ey, -⟩ := hy
    have hg : (eqGuard op t x y (.string i) (.string j)).run P w = .ok () w := run_eqGuard_string op t x y _ _
    have hex : ∀ v, (binOp op t (.string i) (.string j)).run P w = .ok v w → (execOp a.eval o).run P w = .ok (.value v) w := fun v hv => by
      simp [execOp, ho, ex, ey, hg, hv]
    split at hK
    · refine fin _ (hex _ ?_) rfl hK.2
      have h0 : ¬ ((i.size + j.size : Nat) : Int) > IntKind.i64.max := by
        have h1 := hK.1
        unfold maxLen at h1
        have : IntKind.i64.max = 9223372036854775807 := by decide
        omega
      simp only [binOp, Op.stringOp, h0, if_false, Sem.run_pure]
    · refine fin _ (hex _ ?_) rfl hK
      simp [binOp, Op.stringOp]
    · refine fin _ (hex _ ?_) rfl hK
      simp [binOp, Op.stringOp]
    · refine fin _ (hex _ ?_) rfl hK
      simp [binOp, Op.stringOp]
    · refine fin _ (hex _ ?_) rfl hK
      simp [binOp, Op.stringOp]
    · refine fin _ (hex _ ?_) rfl hK
      simp [binOp, Op.stringOp]
    · refine fin _ (hex _ ?_) rfl hK
      simp [binOp, Op.stringOp]
    · exact hK.elim
  · rename_i i j
    obtain ⟨ex, -⟩ := hx
    obtain ⟨ey, -⟩ := hy
    have hg : (eqGuard op t x y (.bool i) (.bool j)).run P w = .ok () w := run_eqGuard_bool op t x y _ _
    have hex : ∀ v, (binOp op t (.bool i) (.bool j)).run P w = .ok v w → (execOp a.eval o).run P w = .ok (.value v) w := fun v hv => by
      simp [execOp, ho, ex, ey, hg, hv]
    obtain ⟨ht, hK⟩ := hK
    split at hK
    · refine fin _ (hex _ ?_) rfl hK
      simp only [binOp, Sem.run_bind, run_equal_bool t ht, Result.andThen_ok, Sem.run_pure]
    · refine fin _ (hex _ ?_) rfl hK
      simp only [binOp, Sem.run_bind, run_equal_bool t ht, Result.andThen_ok, Sem.run_pure]
    · exact hK.elim
  · exact hK.elim

theorem sound_conv {N : Nat} {t t' : TypeId} {x : Operand} (ho : o.op = .convert t t' x) (r : R H w0 g0 s h g a w) (hN : a.tmps.size = N) (hd : ∀ d, o.dst = some d → d < N)
    (hK : awpConv P t t' (ev s x) fun v => K v s h) : o.wp P a w (Aft N H w0 g0 o K) Q := by
  have hx := r.eval x
  unfold awpConv at hK
  split at hK
  · rename_i k n he
    rw [he] at hx
    have hex : a.eval x = .int k n := (rep_v hx).1
    split at hK
    · rename_i k' hu
      obtain ⟨hsrc, hK⟩ := hK
      obtain ⟨ds, hds⟩ := Option.ne_none_iff_exists'.1 hsrc
      refine aft_rep r hN hd ?_ (.v rfl) hK
      simp [execOp, ho, hex, convert, run_underlying hds, run_underlying hu, Conv.intToInt]
    · exact hK.elim
  · exact hK.elim

end
end Go.Vm
