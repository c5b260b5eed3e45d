/- Numbers and sums: the functions of layers 1 and 2 that a tape reaches, by their contracts. -/
import Derived.Test.YtfejonkjfeedcaaDoorVmJ
import Derived.Test.YtfejonkjfeedcaaDoorProg
import Derived.KernelRfl
set_option linter.unusedSimpArgs false
set_option linter.unusedVariables false
namespace Go.Proofs
open Go.Vm

/-! Types of this program. -/
theorem es22 : elemSz Tryd.prog 22 = some (5, 1) := by kernel_rfl
theorem as22 : arrSz Tryd.prog 22 = none := by kernel_rfl
theorem as101 : arrSz Tryd.prog 101 = some (16, 1) := by kernel_rfl
theorem ei22 : elemIn Tryd.prog 22 = some (5, 1, 1) := by kernel_rfl
theorem bt22 : bytesT Tryd.prog 22 = true := by kernel_rfl
theorem zr5 : ((Tryd.prog.info? 5).any fun i => i.zero.isSome) = true := by kernel_rfl
theorem z5 : (Tryd.prog.info? 5).bind (·.zero) = some (.int .u8 0) := by kernel_rfl
theorem sz5 : szT Tryd.prog 5 = some 1 := by kernel_rfl
theorem sz64 : szT Tryd.prog 64 = some 1 := by kernel_rfl
theorem of5 (c : AV) (cs : List AV) (K : AV → Prop) : ofCells Tryd.prog 5 (c :: cs) K = K (val c) := by
  simp [ofCells, Tryd.underlying5, sz5]
theorem cv5_64 (n : Int) (s' s : Slots) (K : AV → Slots → Prop) : awpCvX Tryd.prog 5 64 (.v (.int .u8 n), s') (.v (.int .u8 n)) (.v (.int .u8 n)) s K = K (.v (.int .u32 (IntKind.u32.wrap n))) s := cvi Tryd.underlying5 Tryd.underlying64 n s' s K
theorem cv64_3 (n : Int) (s' s : Slots) (K : AV → Slots → Prop) : awpCvX Tryd.prog 64 3 (.v (.int .u32 n), s') (.v (.int .u32 n)) (.v (.int .u32 n)) s K = K (.v (.int .i64 (IntKind.i64.wrap n))) s := cvi Tryd.underlying64 Tryd.underlying3 n s' s K
theorem cv3_79 (n : Int) (s' s : Slots) (K : AV → Slots → Prop) : awpCvX Tryd.prog 3 79 (.v (.int .i64 n), s') (.v (.int .i64 n)) (.v (.int .i64 n)) s K = K (.v (.int .u64 (IntKind.u64.wrap n))) s := cvi Tryd.underlying3 Tryd.underlying79 n s' s K
theorem cv79_5 (n : Int) (s' s : Slots) (K : AV → Slots → Prop) : awpCvX Tryd.prog 79 5 (.v (.int .u64 n), s') (.v (.int .u64 n)) (.v (.int .u64 n)) s K = K (.v (.int .u8 (IntKind.u8.wrap n))) s := cvi Tryd.underlying79 Tryd.underlying5 n s' s K
theorem cv3_5 (n : Int) (s' s : Slots) (K : AV → Slots → Prop) : awpCvX Tryd.prog 3 5 (.v (.int .i64 n), s') (.v (.int .i64 n)) (.v (.int .i64 n)) s K = K (.v (.int .u8 (IntKind.u8.wrap n))) s := cvi Tryd.underlying3 Tryd.underlying5 n s' s K

theorem idx_bytes (l : List UInt8) (i : Nat) (hi : i < l.length) {e : Nat} {K : AV → Prop} (hK : K (.eptr [.v (.int .u8 l[i].toNat)])) : awpIdx (some (e, 1)) (.sl 1 (l.map encB)) (.v (.int .i64 i)) K := by
  refine idx_intro (xs := l.map encB) (by simp [asSl]) (by simp; omega) (fun x hx => ?_)
  have hx' : x = encB l[i] := by simp [hi] at hx; exact hx.symm
  subst hx'; exact hK

abbrev Tab := FuncId → Option Vm.Spec
def Good (T : Tab) : Prop := ∀ f S, T f = some S → Does Tryd.prog f S
def T0 : Tab := fun _ => none
theorem good0 : Good T0 := fun f S h => by cases h
def ext (T : Tab) (g : FuncId) (S : Vm.Spec) : Tab := fun f => if f = g then some S else T f
theorem good_ext {T : Tab} {g : FuncId} {S : Vm.Spec} (h : Good T) (hd : Does Tryd.prog g S) : Good (ext T g S) := fun f S' hf => by
  unfold ext at hf; split at hf
  · rename_i e; subst e; cases hf; exact hd
  · exact h f S' hf

/-! Sizes. -/
def sized (n : Int) : Bool := n == 1 || n == 2 || n == 4 || n == 8
def sizedSpec : Vm.Spec := fun args h Q => ∃ n : Int, args = [.v (.int .i64 n)] ∧ Q (.v (.bool (sized n))) h

theorem does_sized : Does Tryd.prog 59 sizedSpec := by
  refine does_of_awp good0 Tryd.func59 rfl (by decide +kernel) (by decide +kernel) ?_
  rintro args h Q ⟨n, rfl, hq⟩
  refine ⟨by simp [Tryd.f59], ?_⟩
  rw [awpFunc_some (by rfl)]
  unfold sized at hq
  simp -dsimp only [Vm.E, List.lookup, Nat.reduceAdd, Nat.reduceBEq]
  cases h1 : (n == 1)
  · simp -dsimp only [Vm.E, List.lookup, Nat.reduceAdd, Nat.reduceBEq, h1]
    cases h2 : (n == 2)
    · simp -dsimp only [Vm.E, List.lookup, Nat.reduceAdd, Nat.reduceBEq, h2]
      cases h4 : (n == 4)
      · simp -dsimp only [Vm.E, List.lookup, Nat.reduceAdd, Nat.reduceBEq, h4]
        cases h8 : (n == 8)
        · simp -dsimp only [Vm.E, List.lookup, Nat.reduceAdd, Nat.reduceBEq, h8, Tryd.results59]
          simpa [h1, h2, h4, h8] using hq
        · simp -dsimp only [Vm.E, List.lookup, Nat.reduceAdd, Nat.reduceBEq, h8, Tryd.results59]
          simpa [h1, h2, h4, h8] using hq
      · simp -dsimp only [Vm.E, List.lookup, Nat.reduceAdd, Nat.reduceBEq, h4, Tryd.results59]
        simpa [h1, h2, h4] using hq
    · simp -dsimp only [Vm.E, List.lookup, Nat.reduceAdd, Nat.reduceBEq, h2, Tryd.results59]
      simpa [h1, h2] using hq
  · simp -dsimp only [Vm.E, List.lookup, Nat.reduceAdd, Nat.reduceBEq, h1, Tryd.results59]
    simpa [h1] using hq

theorem does_refSized : Does Tryd.prog 38 sizedSpec := by
  refine does_of_awp good0 Tryd.func38 rfl (by decide +kernel) (by decide +kernel) ?_
  rintro args h Q ⟨n, rfl, hq⟩
  refine ⟨by simp [Tryd.f38], ?_⟩
  rw [awpFunc_some (by rfl)]
  unfold sized at hq
  simp -dsimp only [Vm.E, List.lookup, Nat.reduceAdd, Nat.reduceBEq]
  cases h1 : (n == 1) <;> cases h2 : (n == 2) <;> cases h4 : (n == 4) <;> cases h8 : (n == 8) <;>
    simp -dsimp only [Vm.E, List.lookup, Nat.reduceAdd, Nat.reduceBEq, h1, h2, h4, h8, Tryd.results38] <;> simpa [h1, h2, h4, h8] using hq

/-! The sum: four bits at once, or bit by bit. -/
def nib : List Int := [0x00000000, 0x1DB71064, 0x3B6E20C8, 0x26D930AC, 0x76DC4190, 0x6B6B51F4, 0x4DB26158, 0x5005713C, 0xEDB88320, 0xF00F9344, 0xD6D6A3E8, 0xCB61B38C, 0x9B64C2B0, 0x86D3D2D4, 0xA00AE278, 0xBDBDF21C]

/-- One bit further. -/
def bit1 (c : BitVec 32) : BitVec 32 := if c.getLsbD 0 then (c >>> 1) ^^^ 0xEDB88320#32 else c >>> 1
def bit4 (c : BitVec 32) : BitVec 32 := bit1 (bit1 (bit1 (bit1 c)))
def four (c : BitVec 32) : BitVec 32 := (c >>> 4) ^^^ BitVec.ofInt 32 (nib.getD (c &&& 15#32).toNat 0)

theorem bit1_xor (a b : BitVec 32) : bit1 (a ^^^ b) = bit1 a ^^^ bit1 b := by
  unfold bit1
  rw [BitVec.getLsbD_xor, BitVec.ushiftRight_xor_distrib]
  cases a.getLsbD 0 <;> cases b.getLsbD 0 <;> simp
  · rw [BitVec.xor_assoc]
  · rw [BitVec.xor_assoc, BitVec.xor_assoc, BitVec.xor_comm (b >>> 1)]
  · rw [← BitVec.xor_assoc, BitVec.xor_assoc (a >>> 1), BitVec.xor_comm 3988292384#32, ← BitVec.xor_assoc, BitVec.xor_assoc (a >>> 1 ^^^ b >>> 1)]
    simp
theorem bit4_xor (a b : BitVec 32) : bit4 (a ^^^ b) = bit4 a ^^^ bit4 b := by simp only [bit4, bit1_xor]
theorem bit1_even {y : BitVec 32} (h : y.getLsbD 0 = false) : bit1 y = y >>> 1 := by unfold bit1; rw [h]; rfl
theorem bit4_even {y : BitVec 32} (h : ∀ i, i < 4 → y.getLsbD i = false) : bit4 y = y >>> 4 := by
  have e1 := bit1_even (h 0 (by decide))
  have e2 := bit1_even (y := y >>> 1) (by simpa using h 1 (by decide))
  have e3 := bit1_even (y := y >>> 1 >>> 1) (by simpa using h 2 (by decide))
  have e4 := bit1_even (y := y >>> 1 >>> 1 >>> 1) (by simpa using h 3 (by decide))
  unfold bit4
  rw [e1, e2, e3, e4]
  simp only [← BitVec.shiftRight_add]
theorem bit4_low : ∀ i : Fin 16, bit4 (BitVec.ofNat 32 i.val) = BitVec.ofInt 32 (nib.getD i.val 0) := by decide
theorem low_lt (c : BitVec 32) : (c &&& 15#32).toNat < 16 := by
  rw [BitVec.toNat_and]
  exact Nat.lt_of_le_of_lt Nat.and_le_right (by decide)
theorem four_eq (c : BitVec 32) : four c = bit4 c := by
  have hs : c = (c &&& 4294967280#32) ^^^ (c &&& 15#32) := by
    apply BitVec.eq_of_getLsbD_eq
    intro i hi
    have hd : ∀ i : Fin 32, ((4294967280#32).getLsbD i.val ^^ (15#32).getLsbD i.val) = true := by decide
    have := hd ⟨i, hi⟩
    rw [BitVec.getLsbD_xor, BitVec.getLsbD_and, BitVec.getLsbD_and]
    revert this
    simp only
    generalize (4294967280#32).getLsbD i = p
    generalize (15#32).getLsbD i = q
    cases c.getLsbD i <;> cases p <;> cases q <;> simp
  have hlo := bit4_low ⟨(c &&& 15#32).toNat, low_lt c⟩
  simp only [BitVec.ofNat_toNat, BitVec.setWidth_eq] at hlo
  unfold four
  rw [← hlo]
  conv => rhs; rw [hs, bit4_xor]
  rw [bit4_even (y := c &&& 4294967280#32)]
  · congr 1
    apply BitVec.eq_of_getLsbD_eq
    intro i hi
    rw [BitVec.getLsbD_ushiftRight, BitVec.getLsbD_ushiftRight, BitVec.getLsbD_and]
    have hd : ∀ i : Fin 28, (4294967280#32).getLsbD (4 + i.val) = true := by decide
    by_cases h : i < 28
    · rw [hd ⟨i, h⟩, Bool.and_true]
    · rw [BitVec.getLsbD_of_ge c (4 + i) (by omega)]; rfl
  · intro i hi
    rw [BitVec.getLsbD_and]
    have : i = 0 ∨ i = 1 ∨ i = 2 ∨ i = 3 := by omega
    rcases this with rfl | rfl | rfl | rfl <;> simp

theorem bits_xor32 (a b : BitVec 32) : Go.bits .xor .u32 (a.toNat : Int) (b.toNat : Int) = ((a ^^^ b).toNat : Int) := by
  have h1 : BitVec.ofInt 32 (a.toNat : Int) = a := by rw [BitVec.ofInt_natCast]; simp
  have h2 : BitVec.ofInt 32 (b.toNat : Int) = b := by rw [BitVec.ofInt_natCast]; simp
  show IntKind.u32.wrap ((BitVec.ofInt 32 (a.toNat : Int) ^^^ BitVec.ofInt 32 (b.toNat : Int)).toNat : Int) = _
  rw [h1, h2]
  have := (a ^^^ b).isLt
  exact wrap_u32 (by omega) (by omega)
theorem bits_and32 (a b : BitVec 32) : Go.bits .and .u32 (a.toNat : Int) (b.toNat : Int) = ((a &&& b).toNat : Int) := by
  have h1 : BitVec.ofInt 32 (a.toNat : Int) = a := by rw [BitVec.ofInt_natCast]; simp
  have h2 : BitVec.ofInt 32 (b.toNat : Int) = b := by rw [BitVec.ofInt_natCast]; simp
  show IntKind.u32.wrap ((BitVec.ofInt 32 (a.toNat : Int) &&& BitVec.ofInt 32 (b.toNat : Int)).toNat : Int) = _
  rw [h1, h2]
  have := (a &&& b).isLt
  exact wrap_u32 (by omega) (by omega)
theorem fdiv_shr (c : BitVec 32) (n : Nat) : (c.toNat : Int).fdiv (2 ^ n) = ((c >>> n).toNat : Int) := by
  have e : (2 : Int) ^ n = ((2 ^ n : Nat) : Int) := by simp
  rw [e, Int.fdiv_eq_ediv_of_nonneg _ (Int.natCast_nonneg _), BitVec.toNat_ushiftRight, Nat.shiftRight_eq_div_pow, Int.natCast_ediv]

theorem mvg1 (s : Slots) : mv s (.global 1) = .eptr (nib.map fun n => .v (.int .u32 n)) := mv_global rfl
theorem of64 (c : AV) (cs : List AV) (K : AV → Prop) : ofCells Tryd.prog 64 (c :: cs) K = K (val c) := by
  simp [ofCells, Tryd.underlying64, sz64]

def cell32 (c : BitVec 32) : AV := .v (.int .u32 (c.toNat : Int))
def fourSpec : Vm.Spec := fun args h Q => ∃ c : BitVec 32, args = [.v (.int .u32 (c.toNat : Int))] ∧ Q (.v (.int .u32 ((bit4 c).toNat : Int))) h

theorem does_four : Does Tryd.prog 60 fourSpec := by
  refine does_of_awp good0 Tryd.func60 rfl (by decide +kernel) (by decide +kernel) ?_
  rintro args h Q ⟨c, rfl, hq⟩
  refine ⟨by simp [Tryd.f60], ?_⟩
  rw [awpFunc_some (by rfl)]
  simp -dsimp only [Vm.E, List.lookup, Nat.reduceAdd, Nat.reduceBEq]
  refine shr_intro (by omega) ?_
  have e0 := bits_and32 c 15#32
  have hlt := low_lt c
  simp -dsimp only [Vm.E, List.lookup, Nat.reduceAdd, Nat.reduceBEq, as101, mvg1]
  rw [show Go.bits .and .u32 (c.toNat : Int) 15 = ((c &&& 15#32).toNat : Int) from e0]
  refine arr_eptr (by omega) (by omega) ?_
  have hd : (nib.map fun n => AV.v (.int .u32 n)).drop ((((c &&& 15#32).toNat : Nat) : Int).toNat * 1) = .v (.int .u32 (nib.getD (c &&& 15#32).toNat 0)) :: (nib.map fun n => AV.v (.int .u32 n)).drop ((c &&& 15#32).toNat + 1) := by
    have h1 : (c &&& 15#32).toNat < (nib.map fun n => AV.v (.int .u32 n)).length := by simpa [nib] using hlt
    rw [Int.toNat_natCast, Nat.mul_one, List.drop_eq_getElem_cons h1]
    have h2 : (c &&& 15#32).toNat < nib.length := by simpa using h1
    rw [List.getElem_map, List.getD_eq_getElem?_getD, List.getElem?_eq_getElem h2]
    rfl
  rw [hd]
  simp -dsimp only [Vm.E, List.lookup, Nat.reduceAdd, Nat.reduceBEq, of64, Tryd.results60]
  have e1 : nib.getD (c &&& 15#32).toNat 0 = ((BitVec.ofInt 32 (nib.getD (c &&& 15#32).toNat 0)).toNat : Int) := by
    have : ∀ i : Fin 16, nib.getD i.val 0 = ((BitVec.ofInt 32 (nib.getD i.val 0)).toNat : Int) := by decide
    exact this ⟨_, hlt⟩
  rw [show min (Int.toNat 4) IntKind.u32.bits = 4 by decide, fdiv_shr, e1, bits_xor32]
  have := four_eq c
  unfold four at this
  rw [this]
  exact hq

/-- One byte further. -/
def crcStep (c : BitVec 32) (b : UInt8) : BitVec 32 := bit4 (bit4 (c ^^^ BitVec.ofNat 32 b.toNat))
def crcOf (l : List UInt8) : BitVec 32 := ~~~ (l.foldl crcStep 4294967295#32)

theorem u8_32 (b : UInt8) : IntKind.u32.wrap (b.toNat : Int) = ((BitVec.ofNat 32 b.toNat).toNat : Int) := by
  have := b.toNat_lt
  rw [wrap_u32 (by omega) (by omega), BitVec.toNat_ofNat, Nat.mod_eq_of_lt (by omega)]

def stepSpec : Vm.Spec := fun args h Q => ∃ (c : BitVec 32) (b : UInt8), args = [.v (.int .u32 (c.toNat : Int)), .v (.int .u8 (b.toNat : Int))] ∧ Q (.v (.int .u32 ((crcStep c b).toNat : Int))) h
def sumSpec : Vm.Spec := fun args h Q => ∃ l : List UInt8, l.length ≤ maxLen ∧ args = [.sl 1 (l.map encB)] ∧ Q (.v (.int .u32 ((crcOf l).toNat : Int))) h

def T1 : Tab := ext T0 60 fourSpec
theorem good1 : Good T1 := good_ext good0 does_four

theorem does_step : Does Tryd.prog 47 stepSpec := by
  refine does_of_awp good1 Tryd.func47 rfl (by decide +kernel) (by decide +kernel) ?_
  rintro args h Q ⟨c, b, rfl, hq⟩
  refine ⟨by simp [Tryd.f47], ?_⟩
  rw [awpFunc_some (by rfl)]
  simp -dsimp only [Vm.E, List.lookup, Nat.reduceAdd, Nat.reduceBEq, cv5_64, u8_32, bits_xor32]
  refine call_one (S := fourSpec) rfl _ GaL.rfl ⟨_, rfl, ?_⟩
  simp -dsimp only [Vm.E, List.lookup, Nat.reduceAdd, Nat.reduceBEq]
  refine call_one (S := fourSpec) rfl _ GaL.rfl ⟨_, rfl, ?_⟩
  simp -dsimp only [Vm.E, List.lookup, Nat.reduceAdd, Nat.reduceBEq, Tryd.results47]
  exact hq

theorem crc_take (l : List UInt8) (i : Nat) (h : i < l.length) : (l.take (i + 1)).foldl crcStep 4294967295#32 = crcStep ((l.take i).foldl crcStep 4294967295#32) l[i] := by
  rw [List.take_succ_eq_append_getElem h, List.foldl_append]; rfl

def T2 : Tab := ext T1 47 stepSpec
theorem good2 : Good T2 := good_ext good1 does_step

theorem not32 (c : BitVec 32) : Go.bits .xor .u32 (if IntKind.u32.signed then -1 else IntKind.u32.max) (c.toNat : Int) = ((~~~ c).toNat : Int) := by
  have : (if IntKind.u32.signed then -1 else IntKind.u32.max) = (((4294967295#32).toNat : Nat) : Int) := by decide
  rw [this, bits_xor32]
  rw [← BitVec.allOnes_xor (x := c)]
  rfl

theorem does_sum : Does Tryd.prog 33 sumSpec := by
  refine does_of_awp good2 Tryd.func33 rfl (by decide +kernel) (by decide +kernel) ?_
  rintro args h Q ⟨l, hl, rfl, hq⟩
  refine ⟨by simp [Tryd.f33], ?_⟩
  rw [awpFunc_some (by rfl)]
  simp -dsimp only [Vm.E, List.lookup, Nat.reduceAdd, Nat.reduceBEq, Tryd.underlying22]
  refine awp_loop (fun n s h' => ∃ i, i + n = l.length ∧ h' = h ∧ s = mk [(3, .v (.int .u32 (((l.take i).foldl crcStep 4294967295#32).toNat : Int))), (6, .sl 1 (l.map encB)), (7, .v (.int .i64 l.length)), (8, .v (.int .i64 i))])
    l.length _ (le_mk _ ?_) ⟨0, by omega, rfl, rfl⟩ ?_
  · simp [init_get]
  · rintro n s h' ⟨i, hi, rfl, rfl⟩
    simp -dsimp only [Vm.E, List.lookup, Nat.reduceAdd, Nat.reduceBEq]
    refine cond_intro (fun hc => ?_) (fun hc => ?_)
    · have hlt : i < l.length := by simpa using hc
      simp -dsimp only [Vm.E, List.lookup, Nat.reduceAdd, Nat.reduceBEq, es22, as22]
      refine idx_bytes l i hlt ?_
      simp -dsimp only [Vm.E, List.lookup, Nat.reduceAdd, Nat.reduceBEq, of5]
      refine call_one (S := stepSpec) rfl _ GaL.rfl ⟨_, _, rfl, ?_⟩
      simp -dsimp only [Vm.E, List.lookup, Nat.reduceAdd, Nat.reduceBEq]
      refine kept_intro ⟨l.length - (i + 1), by omega, _, le_mk [(3, .v (.int .u32 (((l.take (i + 1)).foldl crcStep 4294967295#32).toNat : Int))), (6, .sl 1 (l.map encB)), (7, .v (.int .i64 l.length)), (8, .v (.int .i64 (i + 1 : Nat)))] ?_, i + 1, by omega, rfl, rfl⟩
      simp only [List.forall_mem_cons, List.not_mem_nil, false_imp_iff, implies_true, and_true]
      simp -dsimp only [Vm.E, List.lookup, Nat.reduceAdd, Nat.reduceBEq]
      rw [crc_take l i hlt, wrap_i64 (by omega) (by unfold maxLen at hl; omega)]
      exact ⟨.refl _, .refl _, .refl _, .refl _⟩
    · have hge : ¬ i < l.length := by simpa using hc
      simp -dsimp only [Vm.E, List.lookup, Nat.reduceAdd, Nat.reduceBEq, Tryd.results33, not32]
      rw [List.take_of_length_le (by omega)]
      exact hq

end Go.Proofs
