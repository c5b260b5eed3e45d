/- What the functions of the program do: their contracts. -/
import Derived.Test.YtneohggmipeknaaGreatDoorV2
import Derived.Test.YtneohggmipeknaaGreatDoorTFs
import Derived.Lib.Bytealg
import Derived.Lib.Strings
import Derived.Lib.Slices
import Derived.Lib.Walk
import Derived.Laws.Externs
import Derived.Sort.Grow
import Derived.WalkMore
import Derived.Shelf.SlSortCmp.NoneTotal
import Derived.Test.YtneohggmipeknaaGreatDoorShelf
open List renaming lookup → zA, take_of_length_le → zIa, length_cons → zKa, length_map → zLa, length_nil → zMa, length_append → zNa, length_take → zOa, take_succ_eq_append_getElem → zPa, mem_map → zQa, replicate → zSa, getElem_mem → zTa, map_cons → zUa, mem_filter → zVa, map_append → zWa, append_nil → zXa, getElem?_append_right → zJb, mem_map_of_mem → zKb, mem_cons → zLb, finRange → zMb, mem_cons_of_mem → zNb, mem_singleton → zOb, getElem?_eq_none → zPb, findIdx?_eq_some_iff_getElem → zQb, filter_append → zRb, map_nil → zSb, length_filter_le → zTb, getElem?_append_left → zUb, getElem?_eq_getElem → zVb, filter_nil → zWb, filter_eq_self → zXb, filter_cons → zYb, mem_cons_self → zIc
open Nat renaming reduceAdd → zB, reduceBEq → zC, reduceLeDiff → zF, le_refl → zRa, lt_or_ge → zJc
open Int renaming reduceBNe → zD, reduceBEq → zE, toNat_natCast → zJa, fdiv_eq_ediv_of_nonneg → zIb
open Bool renaming true_beq → zG, false_beq → zH, false_eq_true → zYa
set_option maxRecDepth 20000
set_option maxHeartbeats 16000000
set_option linter.unusedSimpArgs false
set_option linter.unusedVariables false
namespace Go.Proofs.Lx
open Go.Vm
theorem idx_bytes (l : List UInt8) (i : Nat) (hi : i < l.length) {e : Nat} {K : AV → Prop} (hK : K (.eptr [.v (.int .u8 l[i].toNat)])) : awpIdx (some (e, 1)) (.sl 1 (l.map encB)) (.v (.int .i64 i)) K := by
 refine idx_intro (xs := l.map encB) (by simp [asSl]) (by simp; omega) (fun x hx => ?_)
 have hx' : x = encB l[i] := by simp [hi] at hx; exact hx.symm
 subst hx'; exact hK
abbrev Tab := FuncId → Option Vm.Spec
def Good (T : Tab) : Prop := ∀ f S, T f = some S → Does Tryz.prog f S
def tab (l : List (FuncId × Vm.Spec)) : Tab := fun f => l.lookup f
theorem good_nil : Good (tab []) := fun f S h => by cases h
theorem good_cons {l : List (FuncId × Vm.Spec)} {g : FuncId} {S : Vm.Spec} (hd : Does Tryz.prog g S) (h : Good (tab l)) : Good (tab ((g, S) :: l)) := fun f S' hf => by
 unfold tab at hf
 simp only [List.lookup] at hf
 split at hf
 · rename_i e
   have : f = g := by simpa using e
   subst this; cases hf; exact hd
 · exact h f S' hf
attribute [local irreducible] awpMake awpAppend awpCvX awpStrOf awpBinX awpSlice awpBS awpStore awpAlloc awpCopy awpIndex awpDraw awpIdxX awpFa awpField awpLookup awpUpdate awpDelete awpClear awpRange awpNext awpEntry awpBuild
def sized (n : Int) : Bool := n == 1 || n == 2 || n == 4 || n == 8
def sizedSpec : Vm.Spec := fun args h Q => ∃ n : Int, args = [.v (.int .i64 n)] ∧ Q (.v (.bool (sized n))) h
theorem does_sized : Does Tryz.prog 245 sizedSpec := by
 refine dA good_nil Tryz.func245 rfl (by decide +kernel) ?_
 rintro args h Q ⟨n, rfl, hq⟩
 refine ⟨by simp [Tryz.f245], ?_⟩
 unfold sized at hq
 simp -dsimp only [Vm.E, zA, zB, zC, zD, zE, zG, zH]
 cases h1 : (n == 1)
 · simp -dsimp only [Vm.E, zA, zB, zC, zD, zE, zG, zH, h1]
   cases h2 : (n == 2)
   · simp -dsimp only [Vm.E, zA, zB, zC, zD, zE, zG, zH, h2]
     cases h4 : (n == 4)
     · simp -dsimp only [Vm.E, zA, zB, zC, zD, zE, zG, zH, h4]
       cases h8 : (n == 8)
       · simp -dsimp only [Vm.E, zA, zB, zC, zD, zE, zG, zH, h8, Tryz.results245]
         simpa [h1, h2, h4, h8] using hq
       · simp -dsimp only [Vm.E, zA, zB, zC, zD, zE, zG, zH, h8, Tryz.results245]
         simpa [h1, h2, h4, h8] using hq
     · simp -dsimp only [Vm.E, zA, zB, zC, zD, zE, zG, zH, h4, Tryz.results245]
       simpa [h1, h2, h4] using hq
   · simp -dsimp only [Vm.E, zA, zB, zC, zD, zE, zG, zH, h2, Tryz.results245]
     simpa [h1, h2] using hq
 · simp -dsimp only [Vm.E, zA, zB, zC, zD, zE, zG, zH, h1, Tryz.results245]
   simpa [h1] using hq
def fits (n size : Int) : Bool := size == 8 || (sized size && decide (0 ≤ n) && decide (n < 256 ^ size.toNat))
def rightSpec : Vm.Spec := fun args h Q => ∃ n size : Int, -9223372036854775808 ≤ n ∧ n ≤ 9223372036854775807 ∧ args = [.v (.int .i64 n), .v (.int .i64 size)] ∧ Q (.v (.bool (fits n size))) h
theorem sized_cases {size : Int} (h : sized size = true) : size = 1 ∨ size = 2 ∨ size = 4 ∨ size = 8 := by
 simp only [sized, Bool.or_eq_true, beq_iff_eq] at h
 omega
theorem does_right : Does Tryz.prog 202 rightSpec := by
 refine dA (good_cons does_sized good_nil) Tryz.func202 rfl (by decide +kernel) ?_
 rintro args h Q ⟨n, size, hn0, hn1, rfl, hq⟩
 refine ⟨by simp [Tryz.f202], ?_⟩
 unfold fits at hq
 simp -dsimp only [Vm.E, zA, zB, zC, zD, zE, zG, zH]
 cases h8 : (size == 8)
 · simp -dsimp only [Vm.E, zA, zB, zC, zD, zE, zG, zH, h8]
   refine call_one (S := sizedSpec) rfl _ GaL.rfl ⟨_, rfl, ?_⟩
   simp -dsimp only [Vm.E, zA, zB, zC, zD, zE, zG, zH]
   cases hs : sized size
   · simp -dsimp only [Vm.E, zA, zB, zC, zD, zE, zG, zH, Tryz.results202]
     simpa [h8, hs] using hq
   · simp -dsimp only [Vm.E, zA, zB, zC, zD, zE, zG, zH]
     cases h0 : decide (n ≥ 0)
     · simp -dsimp only [Vm.E, zA, zB, zC, zD, zE, zG, zH, Tryz.results202]
       have : ¬ 0 ≤ n := by have := of_decide_eq_false h0; omega
       simpa [h8, hs, this] using hq
     · have h0' : 0 ≤ n := by have := of_decide_eq_true h0; omega
       simp -dsimp only [Vm.E, zA, zB, zC, zD, zE, zG, zH]
       rcases sized_cases hs with rfl | rfl | rfl | rfl
       · refine shr_intro (by decide) ?_
         simp -dsimp only [Vm.E, zA, zB, zC, zD, zE, zG, zH, Tryz.results202]
         have : ((n.fdiv (2 ^ min (IntKind.i64.wrap (8 * 1)).toNat IntKind.i64.bits)) == 0) = decide (n < 256) := by
           rw [show (2 : Int) ^ min (IntKind.i64.wrap (8 * 1)).toNat IntKind.i64.bits = 256 by decide, zIb _ (by decide)]
           by_cases hlt : n < 256
           · simp only [hlt, decide_true, beq_iff_eq]; omega
           · simp only [hlt, decide_false, beq_eq_false_iff_ne]; omega
         rw [this]
         simpa [hs, h0'] using hq
       · refine shr_intro (by decide) ?_
         simp -dsimp only [Vm.E, zA, zB, zC, zD, zE, zG, zH, Tryz.results202]
         have : ((n.fdiv (2 ^ min (IntKind.i64.wrap (8 * 2)).toNat IntKind.i64.bits)) == 0) = decide (n < 65536) := by
           rw [show (2 : Int) ^ min (IntKind.i64.wrap (8 * 2)).toNat IntKind.i64.bits = 65536 by decide, zIb _ (by decide)]
           by_cases hlt : n < 65536
           · simp only [hlt, decide_true, beq_iff_eq]; omega
           · simp only [hlt, decide_false, beq_eq_false_iff_ne]; omega
         rw [this]
         simpa [hs, h0'] using hq
       · refine shr_intro (by decide) ?_
         simp -dsimp only [Vm.E, zA, zB, zC, zD, zE, zG, zH, Tryz.results202]
         have : ((n.fdiv (2 ^ min (IntKind.i64.wrap (8 * 4)).toNat IntKind.i64.bits)) == 0) = decide (n < 4294967296) := by
           rw [show (2 : Int) ^ min (IntKind.i64.wrap (8 * 4)).toNat IntKind.i64.bits = 4294967296 by decide, zIb _ (by decide)]
           by_cases hlt : n < 4294967296
           · simp only [hlt, decide_true, beq_iff_eq]; omega
           · simp only [hlt, decide_false, beq_eq_false_iff_ne]; omega
         rw [this]
         simpa [hs, h0'] using hq
       · cases h8
 · simp -dsimp only [Vm.E, zA, zB, zC, zD, zE, zG, zH, h8, Tryz.results202]
   simpa [h8] using hq
def byteOf (n : Int) (j : Nat) : UInt8 := UInt8.ofNat ((n / 2 ^ (8 * j)) % 256).toNat
def be (size : Nat) (n : Int) : List UInt8 := (List.range size).map fun i => byteOf n (size - 1 - i)
theorem byteOf_nat (n : Int) (j : Nat) : ((byteOf n j).toNat : Int) = (n / 2 ^ (8 * j)) % 256 := by
 unfold byteOf
 have h0 := Int.emod_nonneg (n / 2 ^ (8 * j)) (show (256 : Int) ≠ 0 by decide)
 have h1 := Int.emod_lt_of_pos (n / 2 ^ (8 * j)) (show (0 : Int) < 256 by decide)
 rw [UInt8.toNat_ofNat']
 omega
theorem wrap_u8_mod (n : Int) : IntKind.u8.wrap n = n % 256 := by simp [IntKind.wrap, IntKind.bits, IntKind.signed]
theorem wrap_u64_mod (n : Int) : IntKind.u64.wrap n = n % 18446744073709551616 := by simp [IntKind.wrap, IntKind.bits, IntKind.signed]
theorem byte_put (n : Int) (j : Nat) (hj : j ≤ 7) : IntKind.u8.wrap ((IntKind.u64.wrap n).fdiv (2 ^ min (((8 * j : Nat) : Int)).toNat IntKind.u64.bits)) = ((byteOf n j).toNat : Int) := by
 rw [byteOf_nat, wrap_u8_mod, wrap_u64_mod, zJa]
 have hm : min (8 * j) IntKind.u64.bits = 8 * j := by simp [IntKind.bits]; omega
 rw [hm]
 have : j = 0 ∨ j = 1 ∨ j = 2 ∨ j = 3 ∨ j = 4 ∨ j = 5 ∨ j = 6 ∨ j = 7 := by omega
 rcases this with rfl | rfl | rfl | rfl | rfl | rfl | rfl | rfl <;>
   (rw [zIb _ (by decide)]; simp only [Nat.reduceMul, Int.reducePow]; omega)
theorem byte_refPut (n : Int) (j : Nat) (hj : j ≤ 7) : IntKind.u8.wrap (n.fdiv (2 ^ min (((8 * j : Nat) : Int)).toNat IntKind.i64.bits)) = ((byteOf n j).toNat : Int) := by
 rw [byteOf_nat, wrap_u8_mod, zJa]
 have hm : min (8 * j) IntKind.i64.bits = 8 * j := by simp [IntKind.bits]; omega
 rw [hm, zIb                        _ (by have e : (2 : Int) ^ (8 * j) = ((2 ^ (8 * j) : Nat) : Int) := by simp
                                          rw [e]; exact Int.natCast_nonneg _)]
theorem be_take {size : Nat} {n : Int} {k : Nat} (hk : k < size) : (be size n).take (k + 1) = (be size n).take k ++ [byteOf n (size - 1 - k)] := by
 rw [zPa (by simp [be]; exact hk)]
 simp [be]
def putOf (l : List UInt8) (n size : Int) : List UInt8 := if fits n size then l ++ be size.toNat n else l
def putSpec : Vm.Spec := fun args h Q => ∃ (l : List UInt8) (n size : Int), l.length + 8 ≤ 70368744177664 ∧ -9223372036854775808 ≤ n ∧ n ≤ 9223372036854775807 ∧
 args = [.sl 1 (l.map encB), .v (.int .i64 n), .v (.int .i64 size)] ∧ Q (.own true 5 1 ((putOf l n size).map encB)) h
theorem fits_sized {n size : Int} (h : fits n size = true) : sized size = true := by
 simp only [fits, Bool.or_eq_true, Bool.and_eq_true] at h
 rcases h with h | h
 · simp [sized, h]
 · exact h.1.1
theorem plain0 : plain (Value.int IntKind.u8 0) = true ∨ ∃ cs, Value.int IntKind.u8 0 = Value.agg cs ∧ cs.all plain = true := .inl rfl
theorem mk123 (n : Nat) (KK : AV → Prop) (hn : n + 8 ≤ 70368744177664) (hk : KK (.own true 5 1 (zSa n (.v (.int .u8 0))))) : awpMake Tryz.prog 123 (.v (.int .i64 n)) (.v (.int .i64 ((n + 8 : Nat) : Int))) KK := by
 have h1 : (n : Int) ≤ ((n + 8 : Nat) : Int) := by omega
 have h2 : ((n + 8 : Nat) : Int) ≤ 9223372036854775807 := by omega
 have h3 : ((n + 8 : Nat) : Int) * ((1 : Nat) : Int) ≤ 140737488355328 := by omega
 have a3 := @make_intro Tryz.prog 123 5 1 1 .i64 .i64 (n : Int) ((n + 8 : Nat) : Int) (.int .u8 0) KK ei123 z5 plain0 (Int.natCast_nonneg n) h1 h2 h3
 rw [zJa, cst_int] at a3
 exact a3 hk
theorem does_put : Does Tryz.prog 148 putSpec := by
 refine dA (good_cons does_right good_nil) Tryz.func148 rfl (by decide +kernel) ?_
 rintro args h Q ⟨l, n, size, hl, hn0, hn1, rfl, hq⟩
 refine ⟨by simp [Tryz.f148], ?_⟩
 simp -dsimp only [Vm.E, zA, zB, zC, zD, zE, zG, zH, Tryz.underlying123]
 have e8 : IntKind.i64.wrap ((l.length : Int) + 8) = ((l.length + 8 : Nat) : Int) := by rw [wrap_i64 (by omega) (by omega)]; simp
 rw [e8]
 refine mk123 l.length _ hl ?_
 simp -dsimp only [Vm.E, zA, zB, zC, zD, zE, zG, zH, awpCopy_some es123]
 have e9 : (l.map encB).take (zSa l.length (AV.v (.int .u8 0))).length ++ (zSa l.length (AV.v (.int .u8 0))).drop l.length = l.map encB := by
   rw [List.length_replicate, zIa (by simp), List.drop_eq_nil_of_le (by simp), zXa]
 rw [e9]
 refine call_one (S := rightSpec) rfl _ GaL.rfl ⟨n, size, hn0, hn1, rfl, ?_⟩
 simp -dsimp only [Vm.E, zA, zB, zC, zD, zE, zG, zH]
 unfold putOf at hq
 cases hf : fits n size
 · simp -dsimp only [Vm.E, zA, zB, zC, zD, zE, zG, zH, Bool.not_false, Tryz.results148]
   simpa [hf] using hq
 · have hk : ∃ k : Nat, k ≤ 8 ∧ 1 ≤ k ∧ size = k ∧ size.toNat = k := by
     rcases sized_cases (fits_sized hf) with rfl | rfl | rfl | rfl
     · exact ⟨1, by decide, by decide, rfl, rfl⟩
     · exact ⟨2, by decide, by decide, rfl, rfl⟩
     · exact ⟨4, by decide, by decide, rfl, rfl⟩
     · exact ⟨8, by decide, by decide, rfl, rfl⟩
   obtain ⟨k, hk8, hk1, rfl, hk2⟩ := hk
   rw [hf, if_pos rfl, hk2] at hq
   simp -dsimp only [Vm.E, zA, zB, zC, zD, zE, zG, zH, Bool.not_true]
   have e1 : IntKind.i64.wrap (8 * IntKind.i64.wrap ((k : Int) - 1)) = 8 * ((k : Int) - 1 - 0) := by
     rw [wrap_i64 (n := (k : Int) - 1) (by omega) (by omega), wrap_i64 (by omega) (by omega)]; omega
   rw [e1]
   refine awp_loop (fun m s h' => ∃ i : Nat, i + m = k ∧ h' = h ∧ s = mk [(1, .v (.int .i64 n)), (7, .own true 5 1 ((l ++ (be k n).take i).map encB)), (8, .v (.int .i64 (8 * ((k : Int) - 1 - i))))])
     k _ (le_mk _ ?_) ⟨0, by omega, rfl, rfl⟩ ?_
   · simp [init_get]
   · rintro m s h' ⟨i, hi, rfl, rfl⟩
     simp -dsimp only [Vm.E, zA, zB, zC, zD, zE, zG, zH]
     refine cond_intro (fun hc => ?_) (fun hc => ?_)
     · have hlt : i < k := by have := of_decide_eq_true hc; omega
       have ej : 8 * ((k : Int) - 1 - i) = ((8 * (k - 1 - i) : Nat) : Int) := by omega
       simp -dsimp only [Vm.E, zA, zB, zC, zD, zE, zG, zH, cv3_243]
       refine shr_intro (by omega) ?_
       rw [ej]
       simp -dsimp only [Vm.E, zA, zB, zC, zD, zE, zG, zH, cv243_5, byte_put n (k - 1 - i) (by omega), es123]
       refine bs_intro zr5 (by decide) (by decide) rfl rfl (by simp [solid, AV.cells]) ?_
       simp -dsimp only [Vm.E, zA, zB, zC, zD, zE, zG, zH, append_own ei123]
       refine app_sl Tryz.underlying123 (by simp [AV.cells]) ?_ ?_
       · have : ((be k n).take i).length ≤ i := by simp only [zOa]; omega
         simp only [zLa, zNa, zKa, zMa]
         omega
       simp -dsimp only [Vm.E, zA, zB, zC, zD, zE, zG, zH]
       refine kept_intro ⟨k - (i + 1), by omega, _, le_mk [(1, .v (.int .i64 n)), (7, .own true 5 1 ((l ++ (be k n).take (i + 1)).map encB)), (8, .v (.int .i64 (8 * ((k : Int) - 1 - (i + 1 : Nat)))))] ?_, i + 1, by omega, rfl, rfl⟩
       simp only [Vm.D]
       simp -dsimp only [Vm.E, zA, zB, zC, zD, zE, zG, zH]
       rw [wrap_i64 (by omega) (by omega), be_take hlt]
       have e2 : ((8 * (k - 1 - i) : Nat) : Int) - 8 = 8 * ((k : Int) - 1 - (i + 1 : Nat)) := by omega
       rw [e2]
       have e3 : (l ++ (be k n).take i).map encB ++ [AV.v (.int .u8 ((byteOf n (k - 1 - i)).toNat : Int))] = (l ++ ((be k n).take i ++ [byteOf n (k - 1 - i)])).map encB := by simp [encB]
       rw [e3]
       exact ⟨.refl _, .refl _, .refl _⟩
     · have hge : ¬ i < k := by have := of_decide_eq_false hc; omega
       simp -dsimp only [Vm.E, zA, zB, zC, zD, zE, zG, zH, Tryz.results148]
       have : i = k := by omega
       subst this
       rw [zIa (by simp [be])]
       exact hq
theorem str_eql (P : Program) (t : TypeId) (a b : ByteArray) (KV : Value → Prop) : awpBin P .eql t (.v (.string a)) (.v (.string b)) KV = KV (.bool (a.toList == b.toList)) := id rfl
theorem toList_mk (l : List UInt8) : (ByteArray.mk l.toArray).toList = l := by rw [ByteArray.toList_eq]
theorem cs123 (p : AV × Slots) (lk x : AV) (s : Slots) (K : AV → Slots → Prop) : awpCvX Tryz.prog 123 9 p lk x s K = awpStrOf Tryz.prog 123 lk (hid (fun v => K v s) .mk) := cvX_str Tryz.underlying9 p lk x s K
def equalSpec : Vm.Spec := fun args h Q => ∃ a b : List UInt8, args = [.sl 1 (a.map encB), .sl 1 (b.map encB)] ∧ Q (.v (.bool (a == b))) h
theorem does_equal : Does Tryz.prog 87 equalSpec := by
 refine dA good_nil Tryz.func87 rfl (by decide +kernel) ?_
 rintro args h Q ⟨a, b, rfl, hq⟩
 refine ⟨by simp [Tryz.f87], ?_⟩
 simp -dsimp only [Vm.E, zA, zB, zC, zD, zE, zG, zH, cs123]
 refine strOf_sl bt123 a rfl ?_
 simp -dsimp only [Vm.E, zA, zB, zC, zD, zE, zG, zH, cs123]
 refine strOf_sl bt123 b rfl ?_
 simp -dsimp only [Vm.E, zA, zB, zC, zD, zE, zG, zH, str_eql, toList_mk, Tryz.results87]
 exact hq
def cloneSpec : Vm.Spec := fun args h Q => ∃ l : List UInt8, l.length ≤ 70368744177664 ∧ args = [.sl 1 (l.map encB)] ∧ (∀ v, v = .own true 5 1 (l.map encB) ∨ (l = [] ∧ v = .v (.slice none 0 0)) → Q v h)
theorem does_clone : Does Tryz.prog 88 cloneSpec := by
 refine dA good_nil Tryz.func88 rfl (by decide +kernel) ?_
 rintro args h Q ⟨l, hl, rfl, hq⟩
 refine ⟨by simp [Tryz.f88], ?_⟩
 simp -dsimp only [Vm.E, zA, zB, zC, zD, zE, zG, zH]
 refine nil_slice Tryz.underlying123 (nilSl_sl fun b hb => ?_)
 cases b
 · simp -dsimp only [Vm.E, zA, zB, zC, zD, zE, zG, zH, es123]
   refine bs_intro zr5 (by decide) (by decide) rfl rfl (by simp) ?_
   simp -dsimp only [Vm.E, zA, zB, zC, zD, zE, zG, zH, append_own ei123]
   refine app_sl Tryz.underlying123 (fun c hc => by obtain ⟨y, -, rfl⟩ := zQa.1 hc; rfl) ?_ ?_
   · simp only [zLa, zMa]; omega
   simp -dsimp only [Vm.E, zA, zB, zC, zD, zE, zG, zH, Tryz.results88]
   exact hq _ (.inl rfl)
 · have hl0 : l = [] := by simpa using hb rfl
   subst hl0
   simp -dsimp only [Vm.E, zA, zB, zC, zD, zE, zG, zH, Tryz.results88]
   exact hq _ (.inr ⟨rfl, rfl⟩)
def getStep (x : BitVec 64) (c : UInt8) : BitVec 64 := (x <<< 8) ||| BitVec.ofNat 64 c.toNat
def getOf (l : List UInt8) : BitVec 64 := l.foldl getStep 0#64
theorem get_take (l : List UInt8) (i : Nat) (h : i < l.length) : getOf (l.take (i + 1)) = getStep (getOf (l.take i)) l[i] := by
 rw [getOf, zPa h, List.foldl_append]; rfl
theorem wrap_i64_toInt (n : Int) : IntKind.i64.wrap n = (BitVec.ofInt 64 n).toInt := by
 rw [BitVec.toInt_ofInt]
 simp only [IntKind.wrap, IntKind.bits, IntKind.signed, Int.bmod]
 simp
 split <;> split <;> omega
theorem shl64 (x : BitVec 64) : IntKind.u64.wrap ((x.toNat : Int) * 2 ^ 8) = ((x <<< 8).toNat : Int) := by
 rw [wrap_u64_mod, BitVec.toNat_shiftLeft, Nat.shiftLeft_eq]
 omega
theorem or64 (a b : BitVec 64) : Go.bits .or .u64 (a.toNat : Int) (b.toNat : Int) = ((a ||| b).toNat : Int) := by
 have h1 : BitVec.ofInt 64 (a.toNat : Int) = a := by rw [BitVec.ofInt_natCast]; simp
 have h2 : BitVec.ofInt 64 (b.toNat : Int) = b := by rw [BitVec.ofInt_natCast]; simp
 show IntKind.u64.wrap ((BitVec.ofInt 64 (a.toNat : Int) ||| BitVec.ofInt 64 (b.toNat : Int)).toNat : Int) = _
 rw [h1, h2]
 have := (a ||| b).isLt
 exact wrap_u64 (by omega) (by omega)
theorem u8_64 (b : UInt8) : IntKind.u64.wrap (b.toNat : Int) = ((BitVec.ofNat 64 b.toNat).toNat : Int) := by
 have := b.toNat_lt
 rw [wrap_u64 (by omega) (by omega), BitVec.toNat_ofNat, Nat.mod_eq_of_lt (by omega)]
theorem u64_i64 (x : BitVec 64) : IntKind.i64.wrap (x.toNat : Int) = x.toInt := by
 rw [wrap_i64_toInt, BitVec.ofInt_natCast]; simp
theorem shl_i64 (x : BitVec 64) : IntKind.i64.wrap (x.toInt * 2 ^ 8) = (x <<< 8).toInt := by
 rw [wrap_i64_toInt]
 congr 1
 rw [BitVec.ofInt_mul, BitVec.ofInt_toInt, BitVec.shiftLeft_eq_mul_twoPow]
 rfl
theorem or_i64 (a b : BitVec 64) : Go.bits .or .i64 a.toInt b.toInt = (a ||| b).toInt := by
 show IntKind.i64.wrap ((BitVec.ofInt 64 a.toInt ||| BitVec.ofInt 64 b.toInt).toNat : Int) = _
 rw [BitVec.ofInt_toInt, BitVec.ofInt_toInt, u64_i64]
theorem u8_i64 (b : UInt8) : IntKind.i64.wrap (b.toNat : Int) = (BitVec.ofNat 64 b.toNat).toInt := by
 rw [wrap_i64_toInt, BitVec.ofInt_natCast]
def getRes (l : List UInt8) (at_ size : Int) : List AV :=
 if !sized size || decide (at_ < 0) then [.v (.int .i64 0), .v (.int .i64 1)]
 else if at_ > l.length - size then [.v (.int .i64 0), .v (.int .i64 3)]
 else [.v (.int .i64 (getOf ((l.drop at_.toNat).take size.toNat)).toInt), .v (.int .i64 0)]
def getSpec : Vm.Spec := fun args h Q => ∃ (l : List UInt8) (at_ size : Int), l.length ≤ 4611686018427387904 ∧ at_ ≤ 9223372036854775807 ∧
 args = [.sl 1 (l.map encB), .v (.int .i64 at_), .v (.int .i64 size)] ∧ Q (.tup (getRes l at_ size)) h
theorem does_get : Does Tryz.prog 198 getSpec := by
 refine dA (good_cons does_sized good_nil) Tryz.func198 rfl (by decide +kernel) ?_
 rintro args h Q ⟨l, at_, size, hl, hat, rfl, hq⟩
 refine ⟨by simp [Tryz.f198], ?_⟩
 unfold getRes at hq
 simp -dsimp only [Vm.E, zA, zB, zC, zD, zE, zG, zH]
 refine call_one (S := sizedSpec) rfl _ GaL.rfl ⟨_, rfl, ?_⟩
 simp -dsimp only [Vm.E, zA, zB, zC, zD, zE, zG, zH]
 cases hs : sized size
 · simp -dsimp only [Vm.E, zA, zB, zC, zD, zE, zG, zH, Bool.not_false, Tryz.results198]
   simpa [hs] using hq
 · have hk : ∃ k : Nat, k ≤ 8 ∧ 1 ≤ k ∧ size = k ∧ size.toNat = k := by
     rcases sized_cases hs with rfl | rfl | rfl | rfl
     · exact ⟨1, by decide, by decide, rfl, rfl⟩
     · exact ⟨2, by decide, by decide, rfl, rfl⟩
     · exact ⟨4, by decide, by decide, rfl, rfl⟩
     · exact ⟨8, by decide, by decide, rfl, rfl⟩
   obtain ⟨k, hk8, hk1, rfl, hk2⟩ := hk
   simp -dsimp only [Vm.E, zA, zB, zC, zD, zE, zG, zH, Bool.not_true]
   cases h0 : decide (at_ < 0)
   · have h0' : ¬ at_ < 0 := of_decide_eq_false h0
     simp -dsimp only [Vm.E, zA, zB, zC, zD, zE, zG, zH, Tryz.underlying123]
     cases h1 : decide ((l.length : Int) < (k : Int))
     · have h1' : ¬ (l.length : Int) < (k : Int) := of_decide_eq_false h1
       simp -dsimp only [Vm.E, zA, zB, zC, zD, zE, zG, zH, Tryz.underlying123]
       rw [wrap_i64 (n := (l.length : Int) - k) (by omega) (by omega)]
       cases h2 : decide (at_ > (l.length : Int) - k)
       · have h2' : ¬ at_ > (l.length : Int) - k := of_decide_eq_false h2
         simp -dsimp only [Vm.E, zA, zB, zC, zD, zE, zG, zH, Tryz.underlying123]
         rw [wrap_i64 (n := at_ + k) (by omega) (by omega)]
         refine slice_lh es123 (by omega) (by omega) (by simp; omega) ?_
         have hsl : ((l.map encB).take (at_ + k).toNat).drop at_.toNat = ((l.drop at_.toNat).take k).map encB := by
           rw [← List.map_take, ← List.map_drop, List.drop_take]
           congr 2
           omega
         rw [hsl]
         have hlen : ((l.drop at_.toNat).take k).length = k := by simp; omega
         generalize hb : (l.drop at_.toNat).take k = b at hsl hlen
         simp -dsimp only [Vm.E, zA, zB, zC, zD, zE, zG, zH, Tryz.underlying123]
         refine awp_loop (fun n s h' => ∃ i, i + n = b.length ∧ h' = h ∧ s = mk [(8, .v (.int .u64 ((getOf (b.take i)).toNat : Int))), (35, .sl 1 (b.map encB)), (36, .v (.int .i64 b.length)), (37, .v (.int .i64 i))])
           b.length _ (le_mk _ ?_) ⟨0, by omega, rfl, rfl⟩ ?_
         · simp [init_get, getOf]
         · rintro n s h' ⟨i, hi, rfl, rfl⟩
           simp -dsimp only [Vm.E, zA, zB, zC, zD, zE, zG, zH]
           refine cond_intro (fun hc => ?_) (fun hc => ?_)
           · have hlt : i < b.length := by have := of_decide_eq_true hc; omega
             simp -dsimp only [Vm.E, zA, zB, zC, zD, zE, zG, zH, es123, as123]
             refine idx_bytes b i hlt ?_
             simp -dsimp only [Vm.E, zA, zB, zC, zD, zE, zG, zH, of5]
             refine shl_intro (by decide) ?_
             rw [show min (Int.toNat 8) IntKind.u64.bits = 8 by decide, shl64]
             simp -dsimp only [Vm.E, zA, zB, zC, zD, zE, zG, zH, cv5_243, u8_64, or64]
             refine kept_intro ⟨b.length - (i + 1), by omega, _, le_mk [(8, .v (.int .u64 ((getOf (b.take (i + 1))).toNat : Int))), (35, .sl 1 (b.map encB)), (36, .v (.int .i64 b.length)), (37, .v (.int .i64 (i + 1 : Nat)))] ?_, i + 1, by omega, rfl, rfl⟩
             simp only [Vm.D]
             simp -dsimp only [Vm.E, zA, zB, zC, zD, zE, zG, zH]
             rw [get_take b i hlt, wrap_i64 (by omega) (by omega)]
             exact ⟨.refl _, .refl _, .refl _, .refl _⟩
           · have hge : ¬ i < b.length := by have := of_decide_eq_false hc; omega
             simp -dsimp only [Vm.E, zA, zB, zC, zD, zE, zG, zH, cv243_3, u64_i64, Tryz.results198]
             rw [zIa (by omega)]
             simpa [hs, h0', h2', hk2, hb] using hq
       · have h2' : at_ > (l.length : Int) - k := of_decide_eq_true h2
         simp -dsimp only [Vm.E, zA, zB, zC, zD, zE, zG, zH, Tryz.results198]
         simpa [hs, h0', h2'] using hq
     · have h1' : (l.length : Int) < (k : Int) := of_decide_eq_true h1
       have h2' : at_ > (l.length : Int) - k := by omega
       simp -dsimp only [Vm.E, zA, zB, zC, zD, zE, zG, zH, Tryz.results198]
       simpa [hs, h0', h2'] using hq
   · have h0' : at_ < 0 := of_decide_eq_true h0
     simp -dsimp only [Vm.E, zA, zB, zC, zD, zE, zG, zH, Tryz.results198]
     simpa [hs, h0'] using hq
end Go.Proofs.Lx
namespace Go.Proofs.Lx
open Go.Vm
attribute [local irreducible] awpMake awpAppend awpCvX awpStrOf awpBinX awpSlice awpBS awpStore awpAlloc awpCopy awpIndex awpDraw awpIdxX awpFa awpField awpLookup awpUpdate awpDelete awpClear awpRange awpNext awpEntry awpBuild
def I64 (n : Int) : Prop := -9223372036854775808 ≤ n ∧ n ≤ 9223372036854775807
def encI (n : Int) : AV := .v (.int .i64 n)
theorem idx_ints (l : List Int) (i : Nat) (hi : i < l.length) {e : Nat} {K : AV → Prop} (hK : K (.eptr [.v (.int .i64 l[i])])) : awpIdx (some (e, 1)) (.sl 1 (l.map encI)) (.v (.int .i64 i)) K := by
 refine idx_intro (xs := l.map encI) (by simp [asSl]) (by simp; omega) (fun x hx => ?_)
 have hx' : x = encI l[i] := by simp [hi] at hx; exact hx.symm
 subst hx'; exact hK
def packs (size : Nat) (l : List Int) : List UInt8 := l.flatMap (be size)
theorem packs_take (size : Nat) (l : List Int) (i : Nat) (hi : i < l.length) : packs size (l.take (i + 1)) = packs size (l.take i) ++ be size l[i] := by
 rw [packs, zPa hi, List.flatMap_append]; simp [packs]
theorem be_length (size : Nat) (n : Int) : (be size n).length = size := by simp [be]
theorem packs_length (size : Nat) (l : List Int) : (packs size l).length = l.length * size := by
 induction l with
 | nil => simp [packs]
 | cons x l ih => simp only [packs, List.flatMap_cons, zNa, be_length, zKa] at ih ⊢; rw [ih, Nat.add_mul]; omega
theorem putOf8 (l : List UInt8) (n : Int) : putOf l n 8 = l ++ be 8 n := by simp [putOf, fits]
def packOf (l : List Int) : List UInt8 := packs 8 (l.take 15)
def packSpec : Vm.Spec := fun args h Q => ∃ l : List Int, l.length ≤ 4611686018427387904 ∧ (∀ n ∈ l, I64 n) ∧ args = [.sl 1 (l.map encI)] ∧ Q (.own true 5 1 ((packOf l).map encB)) h
theorem min_len (n : Nat) (k : Nat) : (if (k : Int) < (n : Int) then (k : Int) else (n : Int)) = ((min n k : Nat) : Int) := by
 by_cases h : k < n
 · rw [if_pos (by omega)]; omega
 · rw [if_neg (by omega)]; omega
theorem does_pack : Does Tryz.prog 141 packSpec := by
 refine dA (good_cons does_put good_nil) Tryz.func141 rfl (by decide +kernel) ?_
 rintro args h Q ⟨l, hl, hn, rfl, hq⟩
 refine ⟨by simp [Tryz.f141], ?_⟩
 simp -dsimp only [Vm.E, zA, zB, zC, zD, zE, zG, zH, Tryz.underlying120]
 have e1 : (if (15 : Int) < l.length then (15 : Int) else l.length) = ((min l.length 15 : Nat) : Int) := min_len l.length 15
 rw [e1]
 refine slice_h es120 (by omega) (by simp; omega) ?_
 rw [zJa]
 have e2 : (l.map encI).take (min l.length 15) = (l.take 15).map encI := by
   rw [← List.map_take]
   congr 1
   rcases Nat.le_total l.length 15 with h1 | h1
   · rw [Nat.min_eq_left h1, zIa (zRa _), zIa h1]
   · rw [Nat.min_eq_right h1]
 rw [e2]
 simp -dsimp only [Vm.E, zA, zB, zC, zD, zE, zG, zH, Tryz.underlying120]
 have hm : ∀ n ∈ l.take 15, I64 n := fun n h => hn n (List.mem_of_mem_take h)
 have hk : (l.take 15).length ≤ 15 := by rw [zOa]; omega
 unfold packOf at hq
 generalize l.take 15 = r at hm hk hq ⊢
 refine awp_loop (fun m s h' => ∃ i : Nat, i + m = r.length ∧ h' = h ∧ s = mk [(3, .own true 5 1 ((packs 8 (r.take i)).map encB)), (10, .sl 1 (r.map encI)), (11, .v (.int .i64 r.length)), (12, .v (.int .i64 i))])
   r.length _ (le_mk _ ?_) ⟨0, by omega, rfl, rfl⟩ ?_
 · simp only [Vm.D]
   simp -dsimp only [Vm.E, zA, zB, zC, zD, zE, zG, zH]
   exact ⟨.nil _ _ _ (by decide), .refl _, .refl _, .refl _⟩
 · rintro m s h' ⟨i, hi, rfl, rfl⟩
   simp -dsimp only [Vm.E, zA, zB, zC, zD, zE, zG, zH]
   refine cond_intro (fun hc => ?_) (fun hc => ?_)
   · have hlt : i < r.length := by have := of_decide_eq_true hc; omega
     simp -dsimp only [Vm.E, zA, zB, zC, zD, zE, zG, zH, es120, as120]
     refine idx_ints r i hlt ?_
     simp -dsimp only [Vm.E, zA, zB, zC, zD, zE, zG, zH, of3]
     have hb := packs_length 8 (r.take i)
     have hti : (r.take i).length ≤ i := by rw [zOa]; omega
     have hr := hm r[i] (zTa hlt)
     refine call_one (S := putSpec) rfl _ GaL.rfl ⟨packs 8 (r.take i), r[i], 8, by omega, hr.1, hr.2, rfl, ?_⟩
     rw [putOf8, ← packs_take 8 r i hlt]
     simp -dsimp only [Vm.E, zA, zB, zC, zD, zE, zG, zH]
     refine kept_intro ⟨r.length - (i + 1), by omega, _, le_mk [(3, .own true 5 1 ((packs 8 (r.take (i + 1))).map encB)), (10, .sl 1 (r.map encI)), (11, .v (.int .i64 r.length)), (12, .v (.int .i64 (i + 1 : Nat)))] ?_, i + 1, by omega, rfl, rfl⟩
     simp only [Vm.D]
     simp -dsimp only [Vm.E, zA, zB, zC, zD, zE, zG, zH]
     rw [wrap_i64 (by omega) (by omega)]
     exact ⟨.refl _, .refl _, .refl _, .refl _⟩
   · have hge : ¬ i < r.length := by have := of_decide_eq_false hc; omega
     simp -dsimp only [Vm.E, zA, zB, zC, zD, zE, zG, zH, Tryz.results141]
     rw [zIa (by omega)]
     exact hq
def clampK (n : Int) : Int := if (4294967295 : Int) < (if n < 0 then 0 else n) then 4294967295 else (if n < 0 then 0 else n)
theorem clampK_range (n : Int) : 0 ≤ clampK n ∧ clampK n ≤ 4294967295 := by unfold clampK; split <;> split <;> omega
def keyOf (tag : UInt8) (l : List Int) : List UInt8 := tag :: packs 4 ((l.take 7).map clampK)
def keySpec : Vm.Spec := fun args h Q => ∃ (tag : UInt8) (l : List Int), l.length ≤ 4611686018427387904 ∧ args = [.v (.int .u8 tag.toNat), .sl 1 (l.map encI)] ∧ Q (.own true 5 1 ((keyOf tag l).map encB)) h
theorem putOf4 (l : List UInt8) (n : Int) (h0 : 0 ≤ n) (h1 : n ≤ 4294967295) : putOf l n 4 = l ++ be 4 n := by
 have : fits n 4 = true := by
   simp only [fits, sized]
   have e : ((256 : Int) ^ (4 : Int).toNat) = 4294967296 := by decide
   rw [e]
   simp; omega
 simp [putOf, this]
theorem does_key : Does Tryz.prog 69 keySpec := by
 refine dA (good_cons does_put good_nil) Tryz.func69 rfl (by decide +kernel) ?_
 rintro args h Q ⟨tag, l, hl, rfl, hq⟩
 refine ⟨by simp [Tryz.f69], ?_⟩
 simp -dsimp only [Vm.E, zA, zB, zC, zD, zE, zG, zH, es123]
 refine bs_intro zr5 (by decide) (by decide) rfl rfl (by simp [solid, AV.cells]) ?_
 simp -dsimp only [Vm.E, zA, zB, zC, zD, zE, zG, zH, Tryz.underlying120]
 have e1 : (if (7 : Int) < l.length then (7 : Int) else l.length) = ((min l.length 7 : Nat) : Int) := min_len l.length 7
 rw [e1]
 refine slice_h es120 (by omega) (by simp; omega) ?_
 rw [zJa]
 have e2 : (l.map encI).take (min l.length 7) = (l.take 7).map encI := by
   rw [← List.map_take]
   congr 1
   rcases Nat.le_total l.length 7 with h1 | h1
   · rw [Nat.min_eq_left h1, zIa (zRa _), zIa h1]
   · rw [Nat.min_eq_right h1]
 rw [e2]
 simp -dsimp only [Vm.E, zA, zB, zC, zD, zE, zG, zH, Tryz.underlying120]
 have hk : (l.take 7).length ≤ 7 := by rw [zOa]; omega
 unfold keyOf at hq
 generalize l.take 7 = r at hk hq ⊢
 refine awp_loop (fun m s h' => ∃ i : Nat, i + m = r.length ∧ h' = h ∧ s = mk [(5, .own true 5 1 ((tag :: packs 4 ((r.map clampK).take i)).map encB)), (14, .sl 1 (r.map encI)), (15, .v (.int .i64 r.length)), (16, .v (.int .i64 i))])
   r.length _ (le_mk _ ?_) ⟨0, by omega, rfl, rfl⟩ ?_
 · simp only [Vm.D]
   simp -dsimp only [Vm.E, zA, zB, zC, zD, zE, zG, zH]
   exact ⟨.refl _, .refl _, .refl _, .refl _⟩
 · rintro m s h' ⟨i, hi, rfl, rfl⟩
   simp -dsimp only [Vm.E, zA, zB, zC, zD, zE, zG, zH]
   refine cond_intro (fun hc => ?_) (fun hc => ?_)
   · have hlt : i < r.length := by have := of_decide_eq_true hc; omega
     simp -dsimp only [Vm.E, zA, zB, zC, zD, zE, zG, zH, es120, as120]
     refine idx_ints r i hlt ?_
     simp -dsimp only [Vm.E, zA, zB, zC, zD, zE, zG, zH, of3]
     have hlt' : i < (r.map clampK).length := by simpa using hlt
     have hb := packs_length 4 ((r.map clampK).take i)
     have hti : ((r.map clampK).take i).length ≤ i := by rw [zOa]; omega
     have hr := clampK_range r[i]
     have hget : (r.map clampK)[i] = clampK r[i] := by simp
     refine call_one (S := putSpec) rfl _ GaL.rfl ⟨tag :: packs 4 ((r.map clampK).take i), clampK r[i], 4, by simp only [zKa]; omega, by omega, by omega, rfl, ?_⟩
     rw [putOf4 _ _ hr.1 hr.2, List.cons_append, ← hget, ← packs_take 4 (r.map clampK) i hlt']
     simp -dsimp only [Vm.E, zA, zB, zC, zD, zE, zG, zH]
     refine kept_intro ⟨r.length - (i + 1), by omega, _, le_mk [(5, .own true 5 1 ((tag :: packs 4 ((r.map clampK).take (i + 1))).map encB)), (14, .sl 1 (r.map encI)), (15, .v (.int .i64 r.length)), (16, .v (.int .i64 (i + 1 : Nat)))] ?_, i + 1, by omega, rfl, rfl⟩
     simp only [Vm.D]
     simp -dsimp only [Vm.E, zA, zB, zC, zD, zE, zG, zH]
     rw [wrap_i64 (by omega) (by omega)]
     exact ⟨.refl _, .refl _, .refl _, .refl _⟩
   · have hge : ¬ i < r.length := by have := of_decide_eq_false hc; omega
     simp -dsimp only [Vm.E, zA, zB, zC, zD, zE, zG, zH, Tryz.results69]
     rw [zIa (l := r.map clampK) (by simp; omega)]
     exact hq
def num8 (b : List UInt8) (i : Nat) : Int := (getOf ((b.drop (8 * i)).take 8)).toInt
def numsOf (b : List UInt8) (n : Nat) : List Int := (List.range n).map (num8 b)
theorem num8_range (b : List UInt8) (i : Nat) : I64 (num8 b i) := by
 have h1 := BitVec.toInt_lt (x := getOf ((b.drop (8 * i)).take 8))
 have h2 := BitVec.le_toInt (x := getOf ((b.drop (8 * i)).take 8))
 unfold I64 num8
 omega
def unpackRes (b : List UInt8) (many : Int) : List AV :=
 if many < 0 ∨ 15 < many then [.v (.slice none 0 0), .v (.int .i64 1)]
 else if (b.length : Int) ≠ 8 * many then [.v (.slice none 0 0), .v (.int .i64 4)]
 else [.sl 1 ((numsOf b many.toNat).map encI), .v (.int .i64 0)]
def unpackSpec : Vm.Spec := fun args h Q => ∃ (b : List UInt8) (many : Int), b.length ≤ 4611686018427387904 ∧ I64 many ∧ args = [.sl 1 (b.map encB), .v (.int .i64 many)] ∧ Q (.tup (unpackRes b many)) h
theorem getRes8 (b : List UInt8) (i : Nat) (h : 8 * i + 8 ≤ b.length) : getRes b ((8 * i : Nat) : Int) 8 = [.v (.int .i64 (num8 b i)), .v (.int .i64 0)] := by
 unfold getRes num8
 rw [if_neg (by simp [sized]; omega), if_neg (by omega), zJa]
 rfl
theorem plain0i : plain (Value.int IntKind.i64 0) = true ∨ ∃ cs, Value.int IntKind.i64 0 = Value.agg cs ∧ cs.all plain = true := .inl rfl
theorem does_unpack : Does Tryz.prog 140 unpackSpec := by
 refine dA (good_cons does_get good_nil) Tryz.func140 rfl (by decide +kernel) ?_
 rintro args h Q ⟨b, many, hl, hm, rfl, hq⟩
 refine ⟨by simp [Tryz.f140], ?_⟩
 unfold unpackRes at hq
 simp -dsimp only [Vm.E, zA, zB, zC, zD, zE, zG, zH]
 cases h0 : decide (many < 0)
 · have h0' : ¬ many < 0 := of_decide_eq_false h0
   simp -dsimp only [Vm.E, zA, zB, zC, zD, zE, zG, zH]
   cases h1 : decide (many > 15)
   · have h1' : ¬ 15 < many := of_decide_eq_false h1
     simp -dsimp only [Vm.E, zA, zB, zC, zD, zE, zG, zH, Tryz.underlying123]
     rw [wrap_i64 (by omega) (by omega)]
     rw [if_neg (by omega)] at hq
     cases h2 : ((b.length : Int) != 8 * many)
     · have h2' : (b.length : Int) = 8 * many := by simpa using h2
       rw [if_neg (by omega)] at hq
       obtain ⟨k, rfl⟩ : ∃ k : Nat, many = k := ⟨many.toNat, by omega⟩
       rw [zJa] at hq
       have hk : k ≤ 15 := by omega
       simp -dsimp only [Vm.E, zA, zB, zC, zD, zE, zG, zH]
       refine make_intro ei120 z3 plain0i (by omega) (by omega) (by omega) (by omega) ?_
       rw [zJa, cst_int]
       simp -dsimp only [Vm.E, zA, zB, zC, zD, zE, zG, zH, Tryz.underlying120]
       rw [List.length_replicate]
       refine awp_loop (fun m s h' => ∃ i : Nat, i + m = k ∧ h' = h ∧ s = mk [(0, .sl 1 (b.map encB)), (6, .own true 3 1 ((numsOf b i).map encI ++ zSa (k - i) (encI 0))), (22, .v (.int .i64 k)), (23, .v (.int .i64 i))])
         k _ (le_mk _ ?_) ⟨0, by omega, rfl, rfl⟩ ?_
       · simp only [Vm.D]
         simp -dsimp only [Vm.E, zA, zB, zC, zD, zE, zG, zH]
         exact ⟨.refl _, by simp [numsOf, encI], .refl _, .refl _⟩
       · rintro m s h' ⟨i, hi, rfl, rfl⟩
         simp -dsimp only [Vm.E, zA, zB, zC, zD, zE, zG, zH]
         refine cond_intro (fun hc => ?_) (fun hc => ?_)
         · have hlt : i < k := by have := of_decide_eq_true hc; omega
           simp -dsimp only [Vm.E, zA, zB, zC, zD, zE, zG, zH]
           rw [wrap_i64 (by omega) (by omega)]
           refine call_one (S := getSpec) rfl _ GaL.rfl ⟨b, ((8 * i : Nat) : Int), 8, hl, by omega, by simp, ?_⟩
           rw [getRes8 b i (by omega)]
           simp -dsimp only [Vm.E, zA, zB, zC, zD, zE, zG, zH, es120, as120]
           have hlen : ((numsOf b i).map encI ++ zSa (k - i) (encI 0)).length = k := by simp [numsOf]; omega
           refine idxO_intro (xs := (numsOf b i).map encI ++ zSa (k - i) (encI 0)) (by omega) (by rw [hlen]; omega) ?_
           rw [zJa]
           simp -dsimp only [Vm.E, zA, zB, zC, zD, zE, zG, zH, sz3]
           have hgi : ((numsOf b i).map encI ++ zSa (k - i) (encI 0))[i]? = some (encI 0) := by
             rw [zJb (by simp [numsOf])]
             simp [numsOf, List.getElem?_replicate]; omega
           refine store_elt 3 ((numsOf b i).map encI ++ zSa (k - i) (encI 0)) rfl hgi rfl rfl (by decide) rfl ?_
           have hset : ((numsOf b i).map encI ++ zSa (k - i) (encI 0)).set i (reCell (encI 0) (putCells (encI 0).cells 0 (AV.v (.int .i64 (num8 b i))).cells)) = (numsOf b (i + 1)).map encI ++ zSa (k - (i + 1)) (encI 0) := by
             have e : reCell (encI 0) (putCells (encI 0).cells 0 (AV.v (.int .i64 (num8 b i))).cells) = encI (num8 b i) := rfl
             rw [e, List.set_append_right _ _ (by simp [numsOf])]
             have e2 : i - ((numsOf b i).map encI).length = 0 := by simp [numsOf]
             rw [e2, show k - i = (k - (i + 1)) + 1 by omega, List.replicate_succ, List.set_cons_zero]
             simp [numsOf, List.range_succ]
           rw [hset]
           simp -dsimp only [Vm.E, zA, zB, zC, zD, zE, zG, zH]
           refine kept_intro ⟨k - (i + 1), by omega, _, le_mk [(0, .sl 1 (b.map encB)), (6, .own true 3 1 ((numsOf b (i + 1)).map encI ++ zSa (k - (i + 1)) (encI 0))), (22, .v (.int .i64 k)), (23, .v (.int .i64 (i + 1 : Nat)))] ?_, i + 1, by omega, rfl, rfl⟩
           simp only [Vm.D]
           simp -dsimp only [Vm.E, zA, zB, zC, zD, zE, zG, zH]
           rw [wrap_i64 (by omega) (by omega)]
           exact ⟨.refl _, .refl _, .refl _, .refl _⟩
         · have hge : ¬ i < k := by have := of_decide_eq_false hc; omega
           have : i = k := by omega
           subst this
           simp -dsimp only [Vm.E, zA, zB, zC, zD, zE, zG, zH, Tryz.results140]
           simpa using hq
     · have h2' : ¬ (b.length : Int) = 8 * many := by simpa using h2
       rw [if_pos h2'] at hq
       simp -dsimp only [Vm.E, zA, zB, zC, zD, zE, zG, zH, Tryz.results140]
       exact hq
   · have h1' : 15 < many := of_decide_eq_true h1
     rw [if_pos (.inr h1')] at hq
     simp -dsimp only [Vm.E, zA, zB, zC, zD, zE, zG, zH, Tryz.results140]
     exact hq
 · have h0' : many < 0 := of_decide_eq_true h0
   rw [if_pos (.inl h0')] at hq
   simp -dsimp only [Vm.E, zA, zB, zC, zD, zE, zG, zH, Tryz.results140]
   exact hq
def isB (x : AV) (l : List UInt8) : Prop := x = .sl 1 (l.map encB) ∨ (l = [] ∧ x = .v (.slice none 0 0))
theorem isB.ga {x : AV} {l : List UInt8} (h : isB x l) : Ga x (.sl 1 (l.map encB)) := by
 rcases h with rfl | ⟨rfl, rfl⟩
 · exact .refl _
 · exact .nil 1
def unB : AV → UInt8
 | .v (.int _ n) => UInt8.ofNat n.toNat
 | _ => 0
theorem unB_encB (b : UInt8) : unB (encB b) = b := by simp [unB, encB]
def bytesOf : AV → List UInt8
 | .sl _ xs => xs.map unB
 | _ => []
theorem bytesOf_isB {x : AV} {l : List UInt8} (h : isB x l) : bytesOf x = l := by
 rcases h with rfl | ⟨rfl, rfl⟩
 · simp [bytesOf, Function.comp_def, unB_encB]
 · rfl
def shapeOf : AV → Option (List UInt8)
 | .agg [x, .v (.bool false)] => some (bytesOf x)
 | _ => none
def strK (k : List UInt8) : Value := .string ⟨k.toArray⟩
def nowOf (chg mem : List Ent) (k : List UInt8) : Option (List UInt8) :=
 match mget (strK k) chg with
 | some e => shapeOf e.val
 | none => (mget (strK k) mem).map fun e => bytesOf e.val
def WfC (e : Ent) : Prop := (∃ k, e.key = strK k) ∧ ∃ x l b, isB x l ∧ l.length ≤ 120 ∧ e.val = .agg [x, .v (.bool b)]
def WfM (e : Ent) : Prop := (∃ k, e.key = strK k) ∧ ∃ l, isB e.val l ∧ l.length ≤ 120
def kOf (e : Ent) : List UInt8 := match e.key with
 | .string b => b.data.toList
 | _ => []
theorem kOf_eq {e : Ent} {k : List UInt8} (h : e.key = strK k) : kOf e = k := by unfold kOf; rw [h]; rfl
def Born (es : List Ent) (clock : Nat) : Prop := ((es.map (·.born)).Nodup ∧ (es.map kOf).Nodup) ∧ ∀ e ∈ es, e.born < clock
structure VId where
 iv : Nat
 ic : Nat
 im : Nat
structure Fun where
 f : List UInt8 → Option (List UInt8)
 n : Nat
instance : CoeFun Fun fun _ => List UInt8 → Option (List UInt8) := ⟨Fun.f⟩
def noF : Fun := ⟨fun _ => none, 0⟩
def isView (h : Heap) (V : VId) (f : Fun) : Prop :=
 ∃ chg clk mem clk2, h[V.iv]? = some (.cells [.mp V.ic, .v (.pointer none), .mp V.im, .v (.int .i64 0)]) ∧ h[V.ic]? = some (.map chg clk) ∧ h[V.im]? = some (.map mem clk2) ∧
   (V.iv ≠ V.ic ∧ V.iv ≠ V.im ∧ V.ic ≠ V.im) ∧ ((∀ e ∈ chg, WfC e) ∧ ∀ e ∈ mem, WfM e) ∧ (Born chg clk ∧ Born mem clk2) ∧ (∀ k, f k = nowOf chg mem k) ∧ chg.length + mem.length ≤ f.n ∧ ∀ e, e ∈ chg ∨ e ∈ mem → (kOf e).length ≤ 32
def Same (h h' : Heap) (fp : List Nat) : Prop := h.length ≤ h'.length ∧ ∀ i, i < h.length → i ∉ fp → h'[i]? = h[i]?
theorem strK_inj {a b : List UInt8} (h : strK a = strK b) : a = b := by
 unfold strK at h; simpa using h
theorem keyEq_str (a b : List UInt8) : keyEq (strK a) (strK b) = (a == b) := by
 have h1 := keyEq_iff (d := .string) (x := strK a) (y := strK b) trivial trivial
 cases h : keyEq (strK a) (strK b)
 · have : ¬ a = b := fun e => by rw [h1.2 (by rw [e])] at h; cases h
   simpa using this
 · have := strK_inj (h1.1 h)
   simp [this]
theorem mget_mput {v : AV} {c : Nat} (k k' : List UInt8) : ∀ {es : List Ent}, (∀ e ∈ es, ∃ k, e.key = strK k) →
   (mget (strK k') (mput (strK k) v c es)).map Ent.val = if k' = k then some v else (mget (strK k') es).map Ent.val
 | [], _ => by
   simp only [mput, mget, List.find?_cons, List.find?_nil, keyEq_str]
   by_cases h : k' = k
   · simp [h]
   · have h4 : (k' == k) = false := by simpa using h
     simp [h, h4]
 | e :: es, hk => by
   obtain ⟨q, hq⟩ := hk e (zIc ..)
   simp only [mput, hq, keyEq_str]
   by_cases h1 : k = q
   · subst h1
     simp only [beq_self_eq_true, if_true, mget, List.find?_cons, keyEq_str, hq]
     by_cases h : k' = k
     · simp [h]
     · have h4 : (k' == k) = false := by simpa using h
       simp [h, h4]
   · have h2 : (k == q) = false := by simpa using h1
     simp only [h2, zYa, if_false, mget, List.find?_cons, hq, keyEq_str]
     by_cases h3 : k' = q
     · have : ¬ k' = k := fun e => h1 (e.symm.trans h3)
       simp [h3, Ne.symm h1]
     · have h4 : (k' == q) = false := by simpa using h3
       simp only [h4]
       exact mget_mput k k' fun e he => hk e (zNb _ he)
theorem mget_mem {k : Value} {es : List Ent} {e : Ent} (h : mget k es = some e) : e ∈ es := List.mem_of_find?_eq_some h
theorem mput_mem {k : Value} {v : AV} {c : Nat} : ∀ {es : List Ent} {e : Ent}, e ∈ mput k v c es → e ∈ es ∨ (e.key = k ∧ e.val = v)
 | [], e, h => by
   simp only [mput, zOb] at h
   subst h; exact .inr ⟨rfl, rfl⟩
 | x :: es, e, h => by
   simp only [mput] at h
   split at h
   · rcases zLb.1 h with rfl | h
     · exact .inr ⟨rfl, rfl⟩
     · exact .inl (zNb _ h)
   · rcases zLb.1 h with rfl | h
     · exact .inl (zIc ..)
     · rcases mput_mem h with h | h
       · exact .inl (zNb _ h)
       · exact .inr h
theorem mput_born {k : Value} {v : AV} {c : Nat} : ∀ {es : List Ent}, (mput k v c es).map (·.born) = es.map (·.born) ∨ ((mget k es) = none ∧ (mput k v c es).map (·.born) = es.map (·.born) ++ [c])
 | [] => .inr ⟨rfl, rfl⟩
 | x :: es => by
   simp only [mput, mget, List.find?_cons]
   cases hx : keyEq k x.key
   · rcases mput_born (k := k) (v := v) (c := c) (es := es) with h | ⟨h1, h2⟩
     · left; simp [h]
     · right; exact ⟨h1, by simp [h2]⟩
   · left; simp
theorem mput_keys {q : List UInt8} {v : AV} {c : Nat} : ∀ {es : List Ent}, (∀ e ∈ es, ∃ k, e.key = strK k) → (mput (strK q) v c es).map kOf = es.map kOf ∨ (q ∉ es.map kOf ∧ (mput (strK q) v c es).map kOf = es.map kOf ++ [q])
 | [], _ => .inr ⟨by simp, by simp [mput, kOf, strK]⟩
 | x :: es, hk => by
   obtain ⟨kx, hx⟩ := hk x (zIc ..)
   have hkx : kOf x = kx := kOf_eq hx
   simp only [mput]
   rw [hx, keyEq_str]
   by_cases hq : q = kx
   · left
     subst hq
     have e1 : kOf ⟨strK q, v, x.born⟩ = kOf x := by rw [hkx]; exact kOf_eq rfl
     simp [e1]
   · have hq' : (q == kx) = false := by simpa using hq
     rw [hq']
     simp only [zYa, if_false, zUa]
     rcases mput_keys (q := q) (v := v) (c := c) (es := es) (fun e he => hk e (zNb _ he)) with h | ⟨h1, h2⟩
     · left; rw [h]
     · right
       refine ⟨?_, by rw [h2]; rfl⟩
       simp only [zLb, not_or]
       exact ⟨by rw [hkx]; exact hq, h1⟩
theorem Born.put {q : List UInt8} {v : AV} {c : Nat} {es : List Ent} (h : Born es c) (hk : ∀ e ∈ es, ∃ k, e.key = strK k) : Born (mput (strK q) v c es) (mclk (strK q) es c) := by
 have hkeys : ((mput (strK q) v c es).map kOf).Nodup := by
   rcases mput_keys (q := q) (v := v) (c := c) hk with h' | ⟨h1, h2⟩
   · rw [h']; exact h.1.2
   · rw [h2, List.nodup_append]
     exact ⟨h.1.2, by simp, fun a ha b hb => by simp only [zOb] at hb; subst hb; intro e; exact h1 (e ▸ ha)⟩
 generalize strK q = k at hkeys ⊢
 have hb : ∀ b ∈ es.map (·.born), b < c := fun b hb => by obtain ⟨e, he, rfl⟩ := zQa.1 hb; exact h.2 e he
 have hc : c ≤ mclk k es c := by unfold mclk; split <;> omega
 rcases mput_born (k := k) (v := v) (c := c) (es := es) with h1 | ⟨h1, h2⟩
 · exact ⟨⟨by rw [h1]; exact h.1.1, hkeys⟩, fun e he => Nat.lt_of_lt_of_le (hb _ (h1 ▸ zKb he)) hc⟩
 · have h3 : mclk k es c = c + 1 := by simp [mclk, h1]
   refine ⟨⟨?_, hkeys⟩, fun e he => ?_⟩
   · rw [h2, List.nodup_append]
     refine ⟨h.1.1, by simp, fun a ha b hb' => ?_⟩
     simp only [zOb] at hb'
     have := hb a ha
     omega
   · have : e.born ∈ es.map (·.born) ++ [c] := h2 ▸ zKb he
     rw [h3]
     rcases List.mem_append.1 this with h4 | h4
     · have := hb _ h4; omega
     · simp only [zOb] at h4; omega
def upd (f : Fun) (k : List UInt8) (v : Option (List UInt8)) : Fun := ⟨fun x => if x = k then v else f x, f.n + 1⟩
theorem upd_app (f : Fun) (k : List UInt8) (v : Option (List UInt8)) (q : List UInt8) : upd f k v q = if q = k then v else f q := rfl
theorem mput_length {k : Value} {v : AV} {c : Nat} : ∀ es : List Ent, (mput k v c es).length ≤ es.length + 1
 | [] => by simp [mput]
 | x :: es => by
   simp only [mput]
   split
   · simp
   · simpa using mput_length es
theorem isView.put {h : Heap} {V : VId} {f : Fun} {chg mem : List Ent} {clk clk2 : Nat} {k l : List UInt8} {x : AV} {b : Bool}
   (h1 : h[V.iv]? = some (.cells [.mp V.ic, .v (.pointer none), .mp V.im, .v (.int .i64 0)])) (h2 : h[V.ic]? = some (.map chg clk)) (h3 : h[V.im]? = some (.map mem clk2))
   (h4 : V.iv ≠ V.ic ∧ V.iv ≠ V.im ∧ V.ic ≠ V.im) (h5 : (∀ e ∈ chg, WfC e) ∧ ∀ e ∈ mem, WfM e) (h6 : Born chg clk ∧ Born mem clk2) (h7 : (∀ k, f k = nowOf chg mem k) ∧ chg.length + mem.length ≤ f.n ∧ ∀ e, e ∈ chg ∨ e ∈ mem → (kOf e).length ≤ 32) (hx : isB x l) (hl : l.length ≤ 120) (hk32 : k.length ≤ 32) :
   isView (h.set V.ic (.map (mput (strK k) (.agg [x, .v (.bool b)]) clk chg) (mclk (strK k) chg clk))) V (upd f k (if b then none else some l)) := by
 have hlt : V.ic < h.length := by
   rcases zJc V.ic h.length with h' | h'
   · exact h'
   · rw [zPb h'] at h2; cases h2
 refine ⟨mput (strK k) (.agg [x, .v (.bool b)]) clk chg, mclk (strK k) chg clk, mem, clk2, ?_, ?_, ?_, h4, ⟨fun e he => ?_, h5.2⟩, ⟨h6.1.put fun e he => (h5.1 e he).1, h6.2⟩, fun q => ?_, ?_, fun e he => ?_⟩
 · rw [List.getElem?_set_ne h4.1.symm]; exact h1
 · rw [List.getElem?_set_self hlt]
 · rw [List.getElem?_set_ne h4.2.2]; exact h3
 · rcases mput_mem he with h' | ⟨q1, q2⟩
   · exact h5.1 e h'
   · exact ⟨⟨k, q1⟩, x, l, b, hx, hl, q2⟩
 · have hg := mget_mput (v := .agg [x, .v (.bool b)]) (c := clk) k q (es := chg) (fun e he => (h5.1 e he).1)
   show (if q = k then (if b then none else some l) else f q) = _
   unfold nowOf
   cases hm : mget (strK q) (mput (strK k) (.agg [x, .v (.bool b)]) clk chg) with
   | none =>
     rw [hm] at hg
     by_cases hq : q = k
     · rw [if_pos hq] at hg; cases hg
     · rw [if_neg hq] at hg ⊢
       have : mget (strK q) chg = none := by
         cases h' : mget (strK q) chg
         · rfl
         · rw [h'] at hg; cases hg
       rw [h7.1, nowOf, this]
   | some e =>
     rw [hm] at hg
     by_cases hq : q = k
     · rw [if_pos hq] at hg ⊢
       simp only [Option.map_some, Option.some.injEq] at hg
       simp only [hg, shapeOf]
       cases b
       · simp [shapeOf, bytesOf_isB hx]
       · simp [shapeOf]
     · rw [if_neg hq] at hg ⊢
       rw [h7.1, nowOf]
       cases h' : mget (strK q) chg with
       | none => rw [h'] at hg; cases hg
       | some e' =>
         rw [h'] at hg
         simp only [Option.map_some, Option.some.injEq] at hg
         simp only [hg]
 · have h1 := mput_length (k := strK k) (v := .agg [x, .v (.bool b)]) (c := clk) chg
   have h2 := h7.2.1
   show _ ≤ f.n + 1
   omega
 · rcases he with he | he
   · rcases mput_mem he with h' | ⟨q1, q2⟩
     · exact h7.2.2 e (.inl h')
     · rw [kOf_eq q1]; exact hk32
   · exact h7.2.2 e (.inr he)
abbrev nilP : AV := .v (.pointer none)
abbrev vobj (ic im : Nat) : AObj := .cells [.mp ic, nilP, .mp im, .v (.int .i64 0)]
def vnewSpec : Vm.Spec := fun args h Q => args = [nilP] ∧ Q (.ptr (h.length + 2) 0) (h ++ [.map [] 0, .map [] 0, vobj h.length (h.length + 1)])
theorem isView_new (h : Heap) : isView (h ++ [.map [] 0, .map [] 0, vobj h.length (h.length + 1)]) ⟨h.length + 2, h.length, h.length + 1⟩ noF := by
 refine ⟨[], 0, [], 0, ?_, ?_, ?_, ⟨by simp, by simp, by simp⟩, ⟨by simp, by simp⟩, ⟨⟨⟨by simp, by simp⟩, by simp⟩, ⟨⟨by simp, by simp⟩, by simp⟩⟩, fun k => rfl, by simp, by simp⟩ <;> (rw [zJb (by simp)]; simp)
theorem does_vnew : Does Tryz.prog 20 vnewSpec := by
 refine dA good_nil Tryz.func20 rfl (by decide +kernel) ?_
 rintro args h Q ⟨rfl, hq⟩
 refine ⟨by simp [Tryz.f20], ?_⟩
 simp -dsimp only [Vm.E, zA, zB, zC, zD, zE, zG, zH]
 refine build_intro fl69 z69 rfl rfl ?_
 simp -dsimp only [Vm.E, zA, zB, zC, zD, zE, zG, zH, Tryz.results20]
 simpa using hq
def vreadySpec : Vm.Spec := fun args h Q => ∃ iv ic cs, args = [.ptr iv 0] ∧ h[iv]? = some (.cells (.mp ic :: cs)) ∧ Q (.v (.bool true)) h
theorem does_vready : Does Tryz.prog 30 vreadySpec := by
 refine dA good_nil Tryz.func30 rfl (by decide +kernel) ?_
 rintro args h Q ⟨iv, ic, cs, rfl, hv, hq⟩
 refine ⟨by simp [Tryz.f30], ?_⟩
 simp -dsimp only [Vm.E, zA, zB, zC, zD, zE, zG, zH]
 refine nil_pointer Tryz.underlying24 ?_
 simp -dsimp only [Vm.E, zA, zB, zC, zD, zE, zG, zH, fo69_0, hv, of65]
 refine nil_map Tryz.underlying65 ?_
 simp -dsimp only [Vm.E, zA, zB, zC, zD, zE, zG, zH, Tryz.results30]
 exact hq
def vwasSpec : Vm.Spec := fun args h Q => ∃ iv ic im mem clk k, args = [.ptr iv 0, .sl 1 (k.map encB)] ∧ h[iv]? = some (vobj ic im) ∧ h[im]? = some (.map mem clk) ∧ (∀ e ∈ mem, WfM e) ∧
 (∀ e, mget (strK k) mem = some e → Q (.tup [e.val, .v (.bool true)]) h) ∧ (mget (strK k) mem = none → Q (.tup [.v (.slice none 0 0), .v (.bool false)]) h)
theorem keys_str {es : List Ent} (h : ∀ e ∈ es, ∃ k, e.key = strK k) : ∀ e ∈ es, MapKept.IsKey .string e.key := fun e he => by
 obtain ⟨k, hk⟩ := h e he
 rw [hk]; trivial
theorem does_vwas : Does Tryz.prog 86 vwasSpec := by
 refine dA good_nil Tryz.func86 rfl (by decide +kernel) ?_
 rintro args h Q ⟨iv, ic, im, mem, clk, k, rfl, hv, hm, hw, hq1, hq2⟩
 refine ⟨by simp [Tryz.f86], ?_⟩
 simp -dsimp only [Vm.E, zA, zB, zC, zD, zE, zG, zH, fo69_1, hv, of66]
 refine nil_pointer Tryz.underlying66 ?_
 simp -dsimp only [Vm.E, zA, zB, zC, zD, zE, zG, zH]
 refine draw_intro (.take 0 (.take 1 (.take 2 (.take 4 (.take 5 (.alt 3 (.alt 6 (.take 7 (.take 8 (.take 9 (.alt 10 (.alt 11 (.done) .stop) .stop)))) .stop) .stop)))))) (by kernel_rfl) (by kernel_rfl) (by kernel_rfl) (by decide) ?_
 simp -dsimp only [Vm.E, zA, zB, zC, zD, zE, zG, zH, fo69_2, Tryz.underlying123, cs123]
 refine strOf_sl bt123 k rfl ?_
 simp -dsimp only [Vm.E, zA, zB, zC, zD, zE, zG, zH, hv, of67]
 refine lookup_intro mt67 z123 mem clk hm trivial (keys_str fun e he => (hw e he).1) (fun e he => ?_) (fun he => ?_)
 · have hwe := hw e (mget_mem he)
   obtain ⟨-, l, hl, -⟩ := hwe
   have hq := hq1 e he
   generalize e.val = x at hl hq ⊢
   simp only [lookRes, if_true]
   rcases hl with rfl | ⟨rfl, rfl⟩
   · simp -dsimp only [Vm.E, zA, zB, zC, zD, zE, zG, zH, Tryz.results86]
     exact hq
   · simp -dsimp only [Vm.E, zA, zB, zC, zD, zE, zG, zH, Tryz.results86]
     exact hq
 · simp only [lookRes, if_true]
   simp -dsimp only [Vm.E, zA, zB, zC, zD, zE, zG, zH, Tryz.results86]
   exact hq2 he
def vgetSpec : Vm.Spec := fun args h Q => ∃ V f k, args = [.ptr V.iv 0, .sl 1 (k.map encB)] ∧ isView h V f ∧ (∀ x l, isB x l → f k = some l → Q (.tup [x, .v (.bool true)]) h) ∧ (∀ x, isB x [] → f k = none → Q (.tup [x, .v (.bool false)]) h)
theorem clone_isB {v : AV} {l : List UInt8} (h : v = .own true 5 1 (l.map encB) ∨ (l = [] ∧ v = .v (.slice none 0 0))) : (v = .own true 5 1 (l.map encB) ∧ isB (.sl 1 (l.map encB)) l) ∨ (v = .v (.slice none 0 0) ∧ isB v l) := by
 rcases h with rfl | ⟨rfl, rfl⟩
 · exact .inl ⟨rfl, .inl rfl⟩
 · exact .inr ⟨rfl, .inr ⟨rfl, rfl⟩⟩
theorem does_vget : Does Tryz.prog 138 vgetSpec := by
 refine dA (good_cons does_vready (good_cons does_vwas (good_cons does_clone good_nil))) Tryz.func138 rfl (by decide +kernel) ?_
 rintro args h Q ⟨V, f, k, rfl, ⟨chg, clk, mem, clk2, h1, h2, h3, h4, h5, h6, h7⟩, hq1, hq2⟩
 refine ⟨by simp [Tryz.f138], ?_⟩
 have hk7 := h7.1 k
 unfold nowOf at hk7
 simp -dsimp only [Vm.E, zA, zB, zC, zD, zE, zG, zH]
 refine call_one (S := vreadySpec) rfl _ GaL.rfl ⟨V.iv, V.ic, _, rfl, h1, ?_⟩
 simp -dsimp only [Vm.E, zA, zB, zC, zD, zE, zG, zH, fo69_3, h1, of32, bne_self_eq_false]
 refine draw_cont [] (.take 0 (.take 1 (.take 2 (.take 4 (.take 5 (.alt 3 (.alt 6 (.take 7 (.take 8 (.take 9 (.alt 10 (.alt 11 (.alt 12 (.done) .stop) .stop) .stop)))) (.alt 10 (.alt 6 (.take 7 (.take 8 (.take 9 (.alt 11 (.alt 12 (.done) .stop) .stop)))) .stop) (.stop))) (.alt 10 (.alt 3 (.alt 6 (.take 7 (.take 8 (.take 9 (.alt 11 (.alt 12 (.done) .stop) .stop)))) .stop) .stop) (.stop)))))))) (fun s h' => h' = h ∧ s 0 = .ptr V.iv 0 ∧ s 1 = .sl 1 (k.map encB) ∧ ((∃ e, mget (strK k) chg = some e ∧ s 6 = .box e.val.cells ∧ s 7 = .v (.bool true)) ∨ (mget (strK k) chg = none ∧ s 7 = .v (.bool false))))
   (by kernel_rfl) (by kernel_rfl) (by kernel_rfl) (by decide) ?_ ?_
 · have cz : cst (.agg #[.slice none 0 0, .bool false]) = .agg [.v (.slice none 0 0), .v (.bool false)] := by simp [cst, plain]
   have al := fun K => @alloc_agg Tryz.prog 137 _ z137 (by simp [plain]) K
   simp -dsimp only [Vm.E, zA, zB, zC, zD, zE, zG, zH, fo69_0, Tryz.underlying123, cs123]
   refine strOf_sl bt123 k rfl ?_
   simp -dsimp only [Vm.E, zA, zB, zC, zD, zE, zG, zH]
   refine tree_alt ?_ (tree_alt ?_ trivial)
   · simp -dsimp only [Vm.E, zA, zB, zC, zD, zE, zG, zH, h1, of65]
     refine tree_alt ?_ (tree_alt ?_ trivial)
     · simp -dsimp only [Vm.E, zA, zB, zC, zD, zE, zG, zH]
       refine lookup_intro mt65 z137 chg clk h2 trivial (keys_str fun e he => (h5.1 e he).1) (fun e he => ?_) (fun he => ?_)
       · obtain ⟨-, x, l, b, hx, -, hev⟩ := h5.1 e (mget_mem he)
         simp only [lookRes, if_true, hev]
         simp -dsimp only [Vm.E, zA, zB, zC, zD, zE, zG, zH, al, sz137]
         refine store_place _ rfl rfl rfl (by decide) ?_
         simp -dsimp only [Vm.E, zA, zB, zC, zD, zE, zG, zH]
         exact .inl ⟨e, he, by rw [hev]; rfl, trivial⟩
       · simp only [lookRes, if_true, cz]
         simp -dsimp only [Vm.E, zA, zB, zC, zD, zE, zG, zH, al, sz137]
         refine store_place _ rfl rfl rfl (by decide) ?_
         simp -dsimp only [Vm.E, zA, zB, zC, zD, zE, zG, zH]
         exact .inr ⟨he, trivial⟩
     · simp -dsimp only [Vm.E, zA, zB, zC, zD, zE, zG, zH, al]
       refine lookup_intro mt65 z137 chg clk h2 trivial (keys_str fun e he => (h5.1 e he).1) (fun e he => ?_) (fun he => ?_)
       · obtain ⟨-, x, l, b, hx, -, hev⟩ := h5.1 e (mget_mem he)
         simp only [lookRes, if_true, hev]
         simp -dsimp only [Vm.E, zA, zB, zC, zD, zE, zG, zH, al, sz137]
         refine store_place _ rfl rfl rfl (by decide) ?_
         simp -dsimp only [Vm.E, zA, zB, zC, zD, zE, zG, zH]
         exact .inl ⟨e, he, by rw [hev]; rfl, trivial⟩
       · simp only [lookRes, if_true, cz]
         simp -dsimp only [Vm.E, zA, zB, zC, zD, zE, zG, zH, al, sz137]
         refine store_place _ rfl rfl rfl (by decide) ?_
         simp -dsimp only [Vm.E, zA, zB, zC, zD, zE, zG, zH]
         exact .inr ⟨he, trivial⟩
   · simp -dsimp only [Vm.E, zA, zB, zC, zD, zE, zG, zH, al, h1, of65]
     refine lookup_intro mt65 z137 chg clk h2 trivial (keys_str fun e he => (h5.1 e he).1) (fun e he => ?_) (fun he => ?_)
     · obtain ⟨-, x, l, b, hx, -, hev⟩ := h5.1 e (mget_mem he)
       simp only [lookRes, if_true, hev]
       simp -dsimp only [Vm.E, zA, zB, zC, zD, zE, zG, zH, al, sz137]
       refine store_place _ rfl rfl rfl (by decide) ?_
       simp -dsimp only [Vm.E, zA, zB, zC, zD, zE, zG, zH]
       exact .inl ⟨e, he, by rw [hev]; rfl, trivial⟩
     · simp only [lookRes, if_true, cz]
       simp -dsimp only [Vm.E, zA, zB, zC, zD, zE, zG, zH, al, sz137]
       refine store_place _ rfl rfl rfl (by decide) ?_
       simp -dsimp only [Vm.E, zA, zB, zC, zD, zE, zG, zH]
       exact .inr ⟨he, trivial⟩
 · rintro s h' ⟨rfl, hs0, hs1, hs⟩
   rcases hs with ⟨e, he, hs6, hs7⟩ | ⟨he, hs7⟩
   · obtain ⟨-, x, l, b, hx, hl, hev⟩ := h5.1 e (mget_mem he)
     rw [hev] at hs6
     rw [he] at hk7
     have hk7' : f k = shapeOf e.val := hk7
     rw [hev] at hk7'
     simp -dsimp only [Vm.E, zA, zB, zC, zD, zE, zG, zH, hs0, hs1, hs6, hs7, fo137_1, of4]
     cases b
     · simp only [shapeOf, bytesOf_isB hx] at hk7'
       have hg := hx.ga
       rcases hx with rfl | ⟨rfl, rfl⟩
       · simp -dsimp only [Vm.E, zA, zB, zC, zD, zE, zG, zH, hs0, hs1, hs6, hs7, fo137_0, of123]
         refine call_one (S := cloneSpec) rfl _ (GaL.cons hg .nil) ⟨l, by omega, rfl, fun v hv => ?_⟩
         rcases clone_isB hv with ⟨rfl, hx'⟩ | ⟨rfl, hx'⟩
         · simp -dsimp only [Vm.E, zA, zB, zC, zD, zE, zG, zH, hs0, hs1, hs6, hs7, Tryz.results138]
           exact hq1 _ l hx' hk7'
         · simp -dsimp only [Vm.E, zA, zB, zC, zD, zE, zG, zH, hs0, hs1, hs6, hs7, Tryz.results138]
           exact hq1 _ l hx' hk7'
       · simp -dsimp only [Vm.E, zA, zB, zC, zD, zE, zG, zH, hs0, hs1, hs6, hs7, fo137_0, of123]
         refine call_one (S := cloneSpec) rfl _ (GaL.cons hg .nil) ⟨[], by simp, rfl, fun v hv => ?_⟩
         rcases clone_isB hv with ⟨rfl, hx'⟩ | ⟨rfl, hx'⟩
         · simp -dsimp only [Vm.E, zA, zB, zC, zD, zE, zG, zH, hs0, hs1, hs6, hs7, Tryz.results138]
           exact hq1 _ [] hx' hk7'
         · simp -dsimp only [Vm.E, zA, zB, zC, zD, zE, zG, zH, hs0, hs1, hs6, hs7, Tryz.results138]
           exact hq1 _ [] hx' hk7'
     · simp only [shapeOf] at hk7'
       simp -dsimp only [Vm.E, zA, zB, zC, zD, zE, zG, zH, hs0, hs1, hs6, hs7, Tryz.results138]
       exact hq2 _ (.inr ⟨rfl, rfl⟩) hk7'
   · rw [he] at hk7
     have hk7' : f k = (mget (strK k) mem).map fun e => bytesOf e.val := hk7
     simp -dsimp only [Vm.E, zA, zB, zC, zD, zE, zG, zH, hs0, hs1, hs7]
     refine call_one (S := vwasSpec) rfl _ GaL.rfl ⟨V.iv, V.ic, V.im, mem, clk2, k, rfl, h1, h3, h5.2, fun e he2 => ?_, fun he2 => ?_⟩
     · rw [he2] at hk7'
       obtain ⟨-, l, hx, hl⟩ := h5.2 e (mget_mem he2)
       have hf : f k = some l := by rw [hk7']; simp [bytesOf_isB hx]
       clear hk7'
       generalize e.val = x at hx ⊢
       have hg := hx.ga
       rcases hx with rfl | ⟨rfl, rfl⟩
       · simp -dsimp only [Vm.E, zA, zB, zC, zD, zE, zG, zH, hs0, hs1, hs7]
         refine call_one (S := cloneSpec) rfl _ (GaL.cons hg .nil) ⟨l, by omega, rfl, fun v hv => ?_⟩
         rcases clone_isB hv with ⟨rfl, hx'⟩ | ⟨rfl, hx'⟩
         · simp -dsimp only [Vm.E, zA, zB, zC, zD, zE, zG, zH, hs0, hs1, hs7, Tryz.results138]
           exact hq1 _ l hx' hf
         · simp -dsimp only [Vm.E, zA, zB, zC, zD, zE, zG, zH, hs0, hs1, hs7, Tryz.results138]
           exact hq1 _ l hx' hf
       · simp -dsimp only [Vm.E, zA, zB, zC, zD, zE, zG, zH, hs0, hs1, hs7]
         refine call_one (S := cloneSpec) rfl _ (GaL.cons hg .nil) ⟨[], by simp, rfl, fun v hv => ?_⟩
         rcases clone_isB hv with ⟨rfl, hx'⟩ | ⟨rfl, hx'⟩
         · simp -dsimp only [Vm.E, zA, zB, zC, zD, zE, zG, zH, hs0, hs1, hs7, Tryz.results138]
           exact hq1 _ [] hx' hf
         · simp -dsimp only [Vm.E, zA, zB, zC, zD, zE, zG, zH, hs0, hs1, hs7, Tryz.results138]
           exact hq1 _ [] hx' hf
     · rw [he2] at hk7'
       have hf : f k = none := hk7'
       simp -dsimp only [Vm.E, zA, zB, zC, zD, zE, zG, zH, hs0, hs1, hs7]
       refine call_one (S := cloneSpec) rfl _ (GaL.cons (.nil 1) .nil) ⟨[], by simp, rfl, fun v hv => ?_⟩
       rcases clone_isB hv with ⟨rfl, hx'⟩ | ⟨rfl, hx'⟩
       · simp -dsimp only [Vm.E, zA, zB, zC, zD, zE, zG, zH, hs0, hs1, hs7, Tryz.results138]
         exact hq2 _ hx' hf
       · simp -dsimp only [Vm.E, zA, zB, zC, zD, zE, zG, zH, hs0, hs1, hs7, Tryz.results138]
         exact hq2 _ hx' hf
def rightKV (k v : List UInt8) : Bool := !(decide ((k.length : Int) < 1)) && !(decide ((k.length : Int) > 32)) && !(decide ((v.length : Int) > 120))
def vputSpec : Vm.Spec := fun args h Q => ∃ V f k v, args = [.ptr V.iv 0, .sl 1 (k.map encB), .sl 1 (v.map encB)] ∧ isView h V f ∧
 (rightKV k v = true → ∀ h', isView h' V (upd f k (some v)) → Same h h' [V.ic] → Q (.v (.int .i64 0)) h') ∧ (rightKV k v = false → Q (.v (.int .i64 1)) h)
theorem Same.refl (h : Heap) (fp : List Nat) : Same h h fp := ⟨zRa _, fun _ _ _ => rfl⟩
theorem Same.set (h : Heap) (i : Nat) (x : AObj) : Same h (h.set i x) [i] := ⟨by simp, fun j hj hne => by rw [List.getElem?_set_ne]; simp at hne; omega⟩
theorem does_vput : Does Tryz.prog 68 vputSpec := by
 refine dA (good_cons does_vready (good_cons does_clone good_nil)) Tryz.func68 rfl (by decide +kernel) ?_
 rintro args h Q ⟨V, f, k, v, rfl, ⟨chg, clk, mem, clk2, h1, h2, h3, h4, h5, h6, h7⟩, hq1, hq2⟩
 refine ⟨by simp [Tryz.f68], ?_⟩
 unfold rightKV at hq1 hq2
 simp -dsimp only [Vm.E, zA, zB, zC, zD, zE, zG, zH]
 refine call_one (S := vreadySpec) rfl _ GaL.rfl ⟨V.iv, V.ic, _, rfl, h1, ?_⟩
 simp -dsimp only [Vm.E, zA, zB, zC, zD, zE, zG, zH, Tryz.underlying123]
 cases c1 : decide ((k.length : Int) < 1)
 · simp -dsimp only [Vm.E, zA, zB, zC, zD, zE, zG, zH, Tryz.underlying123]
   cases c2 : decide ((k.length : Int) > 32)
   · simp -dsimp only [Vm.E, zA, zB, zC, zD, zE, zG, zH, Tryz.underlying123]
     cases c3 : decide ((v.length : Int) > 120)
     · rw [c1, c2, c3] at hq1
       have hv : v.length ≤ 120 := by have := of_decide_eq_false c3; omega
       have hk32 : k.length ≤ 32 := by have := of_decide_eq_false c2; omega
       simp -dsimp only [Vm.E, zA, zB, zC, zD, zE, zG, zH]
       refine draw_cont [] (.take 0 (.take 1 (.take 2 (.take 4 (.take 5 (.take 6 (.alt 3 (.alt 7 (.alt 8 (.alt 9 (.done) .stop) .stop) .stop) (.alt 7 (.alt 3 (.alt 8 (.alt 9 (.done) .stop) .stop) (.alt 8 (.alt 3 (.alt 9 (.done) .stop) .stop) (.stop))) (.stop))))))))) (fun s h' => isView h' V (upd f k (some v)) ∧ Same h h' [V.ic]) (by kernel_rfl) (by kernel_rfl) (by kernel_rfl) (by decide) ?_ ?_
       · simp -dsimp only [Vm.E, zA, zB, zC, zD, zE, zG, zH, fo69_0, Tryz.underlying123, cs123]
         refine strOf_sl bt123 k rfl ?_
         simp -dsimp only [Vm.E, zA, zB, zC, zD, zE, zG, zH]
         refine tree_alt ?_ (tree_alt ?_ trivial)
         · simp -dsimp only [Vm.E, zA, zB, zC, zD, zE, zG, zH, h1, of65]
           refine call_one (S := cloneSpec) rfl _ GaL.rfl ⟨v, by omega, rfl, fun w hw => ?_⟩
           rcases clone_isB hw with ⟨rfl, hx'⟩ | ⟨rfl, hx'⟩
           · simp -dsimp only [Vm.E, zA, zB, zC, zD, zE, zG, zH, h1, of65]
             refine build_intro fl137 z137 rfl rfl ?_
             simp -dsimp only [Vm.E, zA, zB, zC, zD, zE, zG, zH, h1, of65]
             refine update_intro mt65 chg clk h2 trivial (keys_str fun e he => (h5.1 e he).1) ?_
             simp -dsimp only [Vm.E, zA, zB, zC, zD, zE, zG, zH]
             exact ⟨isView.put (b := false) h1 h2 h3 h4 h5 h6 h7 hx' hv hk32, Same.set _ _ _⟩
           · simp -dsimp only [Vm.E, zA, zB, zC, zD, zE, zG, zH, h1, of65]
             refine build_intro fl137 z137 rfl rfl ?_
             simp -dsimp only [Vm.E, zA, zB, zC, zD, zE, zG, zH, h1, of65]
             refine update_intro mt65 chg clk h2 trivial (keys_str fun e he => (h5.1 e he).1) ?_
             simp -dsimp only [Vm.E, zA, zB, zC, zD, zE, zG, zH]
             exact ⟨isView.put (b := false) h1 h2 h3 h4 h5 h6 h7 hx' hv hk32, Same.set _ _ _⟩
         · simp -dsimp only [Vm.E, zA, zB, zC, zD, zE, zG, zH]
           refine call_one (S := cloneSpec) rfl _ GaL.rfl ⟨v, by omega, rfl, fun w hw => ?_⟩
           rcases clone_isB hw with ⟨rfl, hx'⟩ | ⟨rfl, hx'⟩
           · simp -dsimp only [Vm.E, zA, zB, zC, zD, zE, zG, zH]
             refine tree_alt ?_ (tree_alt ?_ trivial)
             · simp -dsimp only [Vm.E, zA, zB, zC, zD, zE, zG, zH, h1, of65]
               refine build_intro fl137 z137 rfl rfl ?_
               simp -dsimp only [Vm.E, zA, zB, zC, zD, zE, zG, zH, h1, of65]
               refine update_intro mt65 chg clk h2 trivial (keys_str fun e he => (h5.1 e he).1) ?_
               simp -dsimp only [Vm.E, zA, zB, zC, zD, zE, zG, zH]
               exact ⟨isView.put (b := false) h1 h2 h3 h4 h5 h6 h7 hx' hv hk32, Same.set _ _ _⟩
             · simp -dsimp only [Vm.E, zA, zB, zC, zD, zE, zG, zH, h1, of65]
               refine build_intro fl137 z137 rfl rfl ?_
               simp -dsimp only [Vm.E, zA, zB, zC, zD, zE, zG, zH, h1, of65]
               refine update_intro mt65 chg clk h2 trivial (keys_str fun e he => (h5.1 e he).1) ?_
               simp -dsimp only [Vm.E, zA, zB, zC, zD, zE, zG, zH]
               exact ⟨isView.put (b := false) h1 h2 h3 h4 h5 h6 h7 hx' hv hk32, Same.set _ _ _⟩
           · simp -dsimp only [Vm.E, zA, zB, zC, zD, zE, zG, zH]
             refine tree_alt ?_ (tree_alt ?_ trivial)
             · simp -dsimp only [Vm.E, zA, zB, zC, zD, zE, zG, zH, h1, of65]
               refine build_intro fl137 z137 rfl rfl ?_
               simp -dsimp only [Vm.E, zA, zB, zC, zD, zE, zG, zH, h1, of65]
               refine update_intro mt65 chg clk h2 trivial (keys_str fun e he => (h5.1 e he).1) ?_
               simp -dsimp only [Vm.E, zA, zB, zC, zD, zE, zG, zH]
               exact ⟨isView.put (b := false) h1 h2 h3 h4 h5 h6 h7 hx' hv hk32, Same.set _ _ _⟩
             · simp -dsimp only [Vm.E, zA, zB, zC, zD, zE, zG, zH, h1, of65]
               refine build_intro fl137 z137 rfl rfl ?_
               simp -dsimp only [Vm.E, zA, zB, zC, zD, zE, zG, zH, h1, of65]
               refine update_intro mt65 chg clk h2 trivial (keys_str fun e he => (h5.1 e he).1) ?_
               simp -dsimp only [Vm.E, zA, zB, zC, zD, zE, zG, zH]
               exact ⟨isView.put (b := false) h1 h2 h3 h4 h5 h6 h7 hx' hv hk32, Same.set _ _ _⟩
       · rintro s h' ⟨g1, g2⟩
         simp -dsimp only [Vm.E, zA, zB, zC, zD, zE, zG, zH, Tryz.results68]
         exact hq1 rfl h' g1 g2
     · rw [c1, c2, c3] at hq2
       simp -dsimp only [Vm.E, zA, zB, zC, zD, zE, zG, zH, Tryz.results68]
       exact hq2 rfl
   · rw [c1, c2] at hq2
     simp -dsimp only [Vm.E, zA, zB, zC, zD, zE, zG, zH, Tryz.results68]
     exact hq2 rfl
 · rw [c1] at hq2
   simp -dsimp only [Vm.E, zA, zB, zC, zD, zE, zG, zH, Tryz.results68]
   exact hq2 rfl
def seqKey (which : Int) : List UInt8 := keyOf 83 [which]
def ofSpec : Vm.Spec := fun args h Q => ∃ iv which, args = [.ptr iv 0, .v (.int .i64 which)] ∧ Q (.agg [.ptr iv 0, .sl 1 ((seqKey which).map encB)]) h
theorem does_seqOf : Does Tryz.prog 230 ofSpec := by
 refine dA (good_cons does_key good_nil) Tryz.func230 rfl (by decide +kernel) ?_
 rintro args h Q ⟨iv, which, rfl, hq⟩
 refine ⟨by simp [Tryz.f230], ?_⟩
 have al := fun K => @alloc_agg Tryz.prog 274 _ z274 (by simp [plain]) K
 simp -dsimp only [Vm.E, zA, zB, zC, zD, zE, zG, zH, al, es120]
 refine bs_intro zr3 (by decide) (by decide) rfl rfl (by simp [solid, AV.cells]) ?_
 simp -dsimp only [Vm.E, zA, zB, zC, zD, zE, zG, zH]
 refine call_one (S := keySpec) rfl _ GaL.rfl ⟨83, [which], by simp, rfl, ?_⟩
 simp -dsimp only [Vm.E, zA, zB, zC, zD, zE, zG, zH]
 refine build_intro fl274 z274 rfl rfl ?_
 simp -dsimp only [Vm.E, zA, zB, zC, zD, zE, zG, zH, sz274]
 refine store_place _ rfl rfl rfl (by decide) ?_
 simp -dsimp only [Vm.E, zA, zB, zC, zD, zE, zG, zH, Tryz.results230, of274]
 exact ⟨zRa 2, hq⟩
def readOf (f : Fun) (key : List UInt8) : Int :=
 match f key with
 | none => 0
 | some b => if b.length = 8 then num8 b 0 else 0
def seqReadSpec : Vm.Spec := fun args h Q => ∃ V f key, args = [.agg [.ptr V.iv 0, .sl 1 (key.map encB)]] ∧ isView h V f ∧ (∀ l, f key = some l → l.length ≤ 120) ∧ Q (.v (.int .i64 (readOf f key))) h
theorem does_seqRead : Does Tryz.prog 231 seqReadSpec := by
 refine dA (good_cons does_vget (good_cons does_unpack good_nil)) Tryz.func231 rfl (by decide +kernel) ?_
 rintro args h Q ⟨V, f, key, rfl, hV, hlen, hq⟩
 refine ⟨by simp [Tryz.f231], ?_⟩
 unfold readOf at hq
 simp -dsimp only [Vm.E, zA, zB, zC, zD, zE, zG, zH, fo274_0, fo274_1, of24, of123]
 refine call_one (S := vgetSpec) rfl _ GaL.rfl ⟨V, f, key, rfl, hV, fun x l hx hf => ?_, fun x hx hf => ?_⟩
 · rw [hf] at hq
   have hl := hlen l hf
   have hg := hx.ga
   have hq : Q (.v (.int .i64 (if l.length = 8 then num8 l 0 else 0))) h := hq
   rcases hx with rfl | ⟨rfl, rfl⟩
   · simp -dsimp only [Vm.E, zA, zB, zC, zD, zE, zG, zH]
     refine call_one (S := unpackSpec) rfl _ (GaL.cons hg GaL.rfl) ⟨l, 1, by omega, by unfold I64; omega, rfl, ?_⟩
     unfold unpackRes
     by_cases h8 : l.length = 8
     · rw [if_pos h8] at hq
       rw [if_neg (by omega), if_neg (by simp [h8])]
       simp -dsimp only [Vm.E, zA, zB, zC, zD, zE, zG, zH, bne_self_eq_false, es120, as120]
       refine idx_ints (numsOf l 1) 0 (by simp [numsOf]) ?_
       simp -dsimp only [Vm.E, zA, zB, zC, zD, zE, zG, zH, of3, Tryz.results231]
       simpa [numsOf] using hq
     · rw [if_neg h8] at hq
       rw [if_neg (by omega), if_pos (by omega)]
       simp -dsimp only [Vm.E, zA, zB, zC, zD, zE, zG, zH, Tryz.results231]
       exact hq
   · simp -dsimp only [Vm.E, zA, zB, zC, zD, zE, zG, zH]
     refine call_one (S := unpackSpec) rfl _ (GaL.cons hg GaL.rfl) ⟨[], 1, by simp, by unfold I64; omega, rfl, ?_⟩
     unfold unpackRes
     rw [if_neg (by omega), if_pos (by simp)]
     simp -dsimp only [Vm.E, zA, zB, zC, zD, zE, zG, zH, Tryz.results231]
     simpa using hq
 · rw [hf] at hq
   rcases hx with rfl | ⟨-, rfl⟩
   · simp -dsimp only [Vm.E, zA, zB, zC, zD, zE, zG, zH, Tryz.results231]
     exact hq
   · simp -dsimp only [Vm.E, zA, zB, zC, zD, zE, zG, zH, Tryz.results231]
     exact hq
theorem isView.len {h : Heap} {V : VId} {f : Fun} (hV : isView h V f) (k l : List UInt8) (hf : f k = some l) : l.length ≤ 120 := by
 obtain ⟨chg, clk, mem, clk2, h1, h2, h3, h4, h5, h6, h7⟩ := hV
 rw [h7.1, nowOf] at hf
 split at hf
 · rename_i e he
   obtain ⟨-, x, l', b, hx, hl, hv⟩ := h5.1 e (mget_mem he)
   rw [hv] at hf
   cases b
   · simp only [shapeOf, bytesOf_isB hx, Option.some.injEq] at hf; subst hf; exact hl
   · simp [shapeOf] at hf
 · cases hm : mget (strK k) mem with
   | none => rw [hm] at hf; cases hf
   | some e =>
     rw [hm] at hf
     obtain ⟨-, l', hx, hl⟩ := h5.2 e (mget_mem hm)
     simp only [Option.map_some, bytesOf_isB hx, Option.some.injEq] at hf
     subst hf; exact hl
theorem readOf_range (f : Fun) (k : List UInt8) : I64 (readOf f k) := by
 unfold readOf
 split
 · unfold I64; omega
 · split
   · exact num8_range _ _
   · unfold I64; omega
def seqNextSpec : Vm.Spec := fun args h Q => ∃ V f which, args = [.ptr V.iv 0, .v (.int .i64 which)] ∧ isView h V f ∧
 (readOf f (seqKey which) < 0 ∨ 4294967294 < readOf f (seqKey which) → Q (.tup [.v (.int .i64 0), .v (.int .i64 9)]) h) ∧
 (¬ (readOf f (seqKey which) < 0 ∨ 4294967294 < readOf f (seqKey which)) → ∀ h', isView h' V (upd f (seqKey which) (some (be 8 (readOf f (seqKey which) + 1)))) → Same h h' [V.ic] →
   Q (.tup [.v (.int .i64 (readOf f (seqKey which) + 1)), .v (.int .i64 0)]) h')
theorem seqKey_length (which : Int) : (seqKey which).length = 5 := by
 simp [seqKey, keyOf, packs, be_length]
theorem packOf_one (n : Int) : packOf [n] = be 8 n := by simp [packOf, packs]
theorem right_seq (which n : Int) : rightKV (seqKey which) (be 8 n) = true := by
 simp [rightKV, seqKey_length, be_length]
theorem does_seqNext : Does Tryz.prog 185 seqNextSpec := by
 refine dA (good_cons does_seqOf (good_cons does_seqRead (good_cons does_pack (good_cons does_vput good_nil)))) Tryz.func185 rfl (by decide +kernel) ?_
 rintro args h Q ⟨V, f, which, rfl, hV, hq1, hq2⟩
 refine ⟨by simp [Tryz.f185], ?_⟩
 have al := fun K => @alloc_agg Tryz.prog 274 _ z274 (by simp [plain]) K
 simp -dsimp only [Vm.E, zA, zB, zC, zD, zE, zG, zH]
 refine call_one (S := ofSpec) rfl _ GaL.rfl ⟨V.iv, which, rfl, ?_⟩
 simp -dsimp only [Vm.E, zA, zB, zC, zD, zE, zG, zH, al, sz274]
 refine store_place _ rfl rfl rfl (by decide) ?_
 simp -dsimp only [Vm.E, zA, zB, zC, zD, zE, zG, zH, of274]
 refine ⟨zRa 2, ?_⟩
 have hp : (putCells [AV.v (.pointer none), AV.v (.slice none 0 0)] 0 [AV.ptr V.iv 0, AV.sl 1 ((seqKey which).map encB)]) = [AV.ptr V.iv 0, AV.sl 1 ((seqKey which).map encB)] := rfl
 rw [hp]
 simp -dsimp only [Vm.E, zA, zB, zC, zD, zE, zG, zH, List.take_succ_cons, List.take_zero, List.take_nil]
 refine call_one (S := seqReadSpec) rfl _ GaL.rfl ⟨V, f, seqKey which, rfl, hV, fun l hl => hV.len _ l hl, ?_⟩
 have hr := readOf_range f (seqKey which)
 generalize hn : readOf f (seqKey which) = n at hr hq1 hq2 ⊢
 unfold I64 at hr
 simp -dsimp only [Vm.E, zA, zB, zC, zD, zE, zG, zH]
 cases c1 : decide (n < 0)
 · simp -dsimp only [Vm.E, zA, zB, zC, zD, zE, zG, zH]
   cases c2 : decide (n > 4294967294)
   · have d1 := of_decide_eq_false c1
     have d2 := of_decide_eq_false c2
     simp -dsimp only [Vm.E, zA, zB, zC, zD, zE, zG, zH]
     rw [wrap_i64 (by omega) (by omega)]
     have hq2' := hq2 (by omega)
     refine draw_cont [6] (.take 0 (.take 1 (.take 2 (.take 3 (.take 4 (.alt 5 (.alt 6 (.alt 7 (.alt 8 (.done) .stop) .stop) .stop) .stop)))))) (fun s h' => isView h' V (upd f (seqKey which) (some (be 8 (n + 1)))) ∧ Same h h' [V.ic] ∧ s 7 = .v (.int .i64 (n + 1)) ∧ s 8 = .v (.int .i64 0)) (by kernel_rfl) (by kernel_rfl) (by kernel_rfl) (by decide) ?_ ?_
     · simp -dsimp only [Vm.E, zA, zB, zC, zD, zE, zG, zH, fo274_0, fo274_1, of24, of123, es120]
       refine bs_intro zr3 (by decide) (by decide) rfl rfl (by simp [solid, AV.cells]) ?_
       simp -dsimp only [Vm.E, zA, zB, zC, zD, zE, zG, zH]
       refine call_one (S := packSpec) rfl _ GaL.rfl ⟨[n + 1], by simp, fun m hm => by simp at hm; subst hm; unfold I64; omega, rfl, ?_⟩
       rw [packOf_one]
       simp -dsimp only [Vm.E, zA, zB, zC, zD, zE, zG, zH]
       refine call_one (S := vputSpec) rfl _ GaL.rfl ⟨V, f, seqKey which, be 8 (n + 1), rfl, hV, fun _ h' g1 g2 => ?_, fun hc => by rw [right_seq] at hc; cases hc⟩
       simp -dsimp only [Vm.E, zA, zB, zC, zD, zE, zG, zH]
       exact ⟨g1, g2, trivial⟩
     · rintro s h' ⟨g1, g2, g3, g4⟩
       simp -dsimp only [Vm.E, zA, zB, zC, zD, zE, zG, zH, g3, g4, Tryz.results185]
       exact hq2' h' g1 g2
   · have d2 := of_decide_eq_true c2
     simp -dsimp only [Vm.E, zA, zB, zC, zD, zE, zG, zH, Tryz.results185]
     exact hq1 (.inr d2)
 · have d1 := of_decide_eq_true c1
   simp -dsimp only [Vm.E, zA, zB, zC, zD, zE, zG, zH, Tryz.results185]
   exact hq1 (.inl d1)
end Go.Proofs.Lx
namespace Go.Proofs.Lx
open Go.Vm
theorem getStep_nat (x : BitVec 64) (c : UInt8) (h : x.toNat * 256 + c.toNat < 18446744073709551616) : (getStep x c).toNat = x.toNat * 256 + c.toNat := by
 have hc := c.toNat_lt
 have e1 : (x <<< 8).toNat = x.toNat * 256 := by
   rw [BitVec.toNat_shiftLeft, Nat.shiftLeft_eq]
   have h' : x.toNat * 256 < 18446744073709551616 := Nat.lt_of_le_of_lt (Nat.le_add_right _ _) h
   have e : (2 : Nat) ^ 64 = 18446744073709551616 := by decide
   have e' : (2 : Nat) ^ 8 = 256 := by decide
   rw [e, e']
   exact Nat.mod_eq_of_lt h'
 have e2 : (BitVec.ofNat 64 c.toNat).toNat = c.toNat := by
   rw [BitVec.toNat_ofNat]
   have h' : c.toNat < 18446744073709551616 := Nat.lt_of_le_of_lt (Nat.le_add_left _ _) h
   have e : (2 : Nat) ^ 64 = 18446744073709551616 := by decide
   rw [e]
   exact Nat.mod_eq_of_lt h'
 unfold getStep
 rw [BitVec.toNat_or, e1, e2]
 have := Nat.two_pow_add_eq_or_of_lt (i := 8) (b := c.toNat) (by simpa using hc) x.toNat
 simp only [Nat.reducePow] at this
 rw [Nat.mul_comm]; exact this.symm
theorem byteOf_u (n : Int) (j : Nat) (hj : j ≤ 7) : (byteOf n j).toNat = ((n % 18446744073709551616).toNat / 2 ^ (8 * j)) % 256 := by
 have h := byteOf_nat n j
 have h0 : 0 ≤ n % 18446744073709551616 := Int.emod_nonneg _ (by decide)
 have : j = 0 ∨ j = 1 ∨ j = 2 ∨ j = 3 ∨ j = 4 ∨ j = 5 ∨ j = 6 ∨ j = 7 := by omega
 rcases this with rfl | rfl | rfl | rfl | rfl | rfl | rfl | rfl <;> (simp only [Nat.reduceMul, Nat.reducePow, Int.reducePow] at h ⊢; omega)
theorem getOf_be (n : Int) : (getOf (be 8 n)).toNat = (n % 18446744073709551616).toNat := by
 have hu : (n % 18446744073709551616).toNat < 18446744073709551616 := by
   have := Int.emod_lt_of_pos n (show (0 : Int) < 18446744073709551616 by decide)
   have h0 : 0 ≤ n % 18446744073709551616 := Int.emod_nonneg _ (by decide)
   omega
 have hb : be 8 n = [byteOf n 7, byteOf n 6, byteOf n 5, byteOf n 4, byteOf n 3, byteOf n 2, byteOf n 1, byteOf n 0] := rfl
 have b7 := byteOf_u n 7 (by decide); have b6 := byteOf_u n 6 (by decide); have b5 := byteOf_u n 5 (by decide); have b4 := byteOf_u n 4 (by decide)
 have b3 := byteOf_u n 3 (by decide); have b2 := byteOf_u n 2 (by decide); have b1 := byteOf_u n 1 (by decide); have b0 := byteOf_u n 0 (by decide)
 rw [hb]
 generalize (n % 18446744073709551616).toNat = u at hu b7 b6 b5 b4 b3 b2 b1 b0 ⊢
 simp only [Nat.reduceMul, Nat.reducePow, Nat.div_one] at b7 b6 b5 b4 b3 b2 b1 b0
 simp only [getOf, List.foldl_cons, List.foldl_nil]
 have z : (0#64).toNat = 0 := rfl
 have s1 := getStep_nat 0#64 (byteOf n 7) (by rw [z]; omega)
 have e1 : (getStep 0#64 (byteOf n 7)).toNat = u / 72057594037927936 := by rw [s1, z, b7]; omega
 generalize getStep 0#64 (byteOf n 7) = x1 at e1 ⊢
 have e2 : (getStep x1 (byteOf n 6)).toNat = u / 281474976710656 := by rw [getStep_nat _ _ (by omega), e1, b6]; omega
 generalize getStep x1 (byteOf n 6) = x2 at e2 ⊢
 have e3 : (getStep x2 (byteOf n 5)).toNat = u / 1099511627776 := by rw [getStep_nat _ _ (by omega), e2, b5]; omega
 generalize getStep x2 (byteOf n 5) = x3 at e3 ⊢
 have e4 : (getStep x3 (byteOf n 4)).toNat = u / 4294967296 := by rw [getStep_nat _ _ (by omega), e3, b4]; omega
 generalize getStep x3 (byteOf n 4) = x4 at e4 ⊢
 have e5 : (getStep x4 (byteOf n 3)).toNat = u / 16777216 := by rw [getStep_nat _ _ (by omega), e4, b3]; omega
 generalize getStep x4 (byteOf n 3) = x5 at e5 ⊢
 have e6 : (getStep x5 (byteOf n 2)).toNat = u / 65536 := by rw [getStep_nat _ _ (by omega), e5, b2]; omega
 generalize getStep x5 (byteOf n 2) = x6 at e6 ⊢
 have e7 : (getStep x6 (byteOf n 1)).toNat = u / 256 := by rw [getStep_nat _ _ (by omega), e6, b1]; omega
 generalize getStep x6 (byteOf n 1) = x7 at e7 ⊢
 rw [getStep_nat _ _ (by omega), e7, b0]; omega
theorem num8_be (n : Int) (hn : I64 n) : num8 (be 8 n) 0 = n := by
 unfold I64 at hn
 have h8 : ((be 8 n).drop (8 * 0)).take 8 = be 8 n := by rw [Nat.mul_zero, List.drop_zero, zIa (by rw [be_length]; exact zRa _)]
 unfold num8
 rw [h8, BitVec.toInt_eq_toNat_cond, getOf_be]
 have h0 : 0 ≤ n % 18446744073709551616 := Int.emod_nonneg _ (by decide)
 split <;> omega
end Go.Proofs.Lx
namespace Go.Proofs.Lx
open Go.Vm
attribute [local irreducible] awpArr awpBin awpMake awpAppend awpCvX awpStrOf awpBinX awpSlice awpBS awpStore awpAlloc awpCopy awpIndex awpDraw awpIdxX awpFa awpField awpLookup awpUpdate awpDelete awpClear awpRange awpNext awpEntry awpBuild
def num4 (b : List UInt8) (i : Nat) : Int := (getOf ((b.drop (4 * i)).take 4)).toInt
def numsK (b : List UInt8) (n : Nat) : List Int := (List.range n).map (num4 b)
theorem getRes4 (b : List UInt8) (i : Nat) (h : 4 * i + 4 ≤ b.length) : getRes b ((4 * i : Nat) : Int) 4 = [.v (.int .i64 (num4 b i)), .v (.int .i64 0)] := by
 unfold getRes num4
 rw [if_neg (by simp [sized]; omega), if_neg (by omega), zJa]
 rfl
theorem num4_range (b : List UInt8) (i : Nat) : I64 (num4 b i) := by
 have h1 := BitVec.toInt_lt (x := getOf ((b.drop (4 * i)).take 4))
 have h2 := BitVec.le_toInt (x := getOf ((b.drop (4 * i)).take 4))
 unfold I64 num4
 omega
def splitOf (b : List UInt8) : Option (UInt8 × List Int) :=
 match b with
 | [] => none
 | t :: r => if r.length % 4 = 0 ∧ r.length ≤ 28 then some (t, numsK r (r.length / 4)) else none
def noKey : AV := .tup [.v (.int .u8 0), .v (.slice none 0 0), .v (.bool false)]
def splitSpec : Vm.Spec := fun args h Q => ∃ b : List UInt8, b.length ≤ 4611686018427387904 ∧ args = [.sl 1 (b.map encB)] ∧
 (splitOf b = none → Q noKey h) ∧ (∀ t l, splitOf b = some (t, l) → Q (.otup 1 true 3 1 (l.map encI) [.v (.int .u8 t.toNat), .any, .v (.bool true)]) h)
theorem does_split : Does Tryz.prog 201 splitSpec := by
 refine does_of_awpO 1 (good_cons does_get good_nil) Tryz.func201 rfl (by decide +kernel) (by decide +kernel) ?_
 rintro args h Q ⟨b, hl, rfl, hq0, hq⟩
 refine ⟨by simp [Tryz.f201], ?_⟩
 rw [awpFuncO_some (by rfl)]
 simp -dsimp only [Vm.E, zA, zB, zC, zD, zE, zG, zH, Tryz.underlying123]
 cases b with
 | nil =>
   simp -dsimp only [Vm.E, zA, zB, zC, zD, zE, zG, zH, zMa, Int.natCast_zero, beq_self_eq_true, Tryz.results201]
   exact hq0 rfl
 | cons t r =>
   have e0 : (((t :: r).length : Int) == 0) = false := by simp only [zKa, beq_eq_false_iff_ne]; omega
   simp -dsimp only [Vm.E, zA, zB, zC, zD, zE, zG, zH, e0]
   refine slice_l es123 (by omega) (by simp; omega) ?_
   have e1 : (encB t :: r.map encB).drop (1 : Int).toNat = r.map encB := rfl
   simp -dsimp only [Vm.E, zA, zB, zC, zD, zE, zG, zH, e1, Tryz.underlying123]
   refine rem_intro (by decide) ?_
   have e2 : (r.length : Int).tmod 4 = ((r.length % 4 : Nat) : Int) := by rw [Int.tmod_eq_emod_of_nonneg (by omega)]; omega
   simp only [e2]
   simp -dsimp only [Vm.E, zA, zB, zC, zD, zE, zG, zH]
   unfold splitOf at hq0 hq
   cases c1 : (((r.length % 4 : Nat) : Int) != 0)
   · have d1 : r.length % 4 = 0 := by simp at c1; omega
     simp -dsimp only [Vm.E, zA, zB, zC, zD, zE, zG, zH, Tryz.underlying123]
     cases c2 : decide ((r.length : Int) > 28)
     · have d2 : r.length ≤ 28 := by have := of_decide_eq_false c2; omega
       have hq' := hq t (numsK r (r.length / 4)) (if_pos ⟨d1, d2⟩)
       clear hq hq0
       obtain ⟨k, hk⟩ : ∃ k, r.length = 4 * k := ⟨r.length / 4, by omega⟩
       rw [show r.length / 4 = k by omega] at hq'
       simp -dsimp only [Vm.E, zA, zB, zC, zD, zE, zG, zH]
       refine awp_loop (fun m s h' => ∃ i : Nat, i + m = k ∧ h' = h ∧ s = mk [(0, .sl 1 ((t :: r).map encB)), (5, .sl 1 (r.map encB)), (6, .own true 3 1 ((numsK r i).map encI)), (7, .v (.int .i64 (4 * i : Nat)))])
         k _ (le_mk _ ?_) ⟨0, by omega, rfl, rfl⟩ ?_
       · simp only [Vm.D]
         simp -dsimp only [Vm.E, zA, zB, zC, zD, zE, zG, zH]
         exact ⟨.refl _, .refl _, .nil _ _ _ (by decide), .refl _⟩
       · rintro m s h' ⟨i, hi, rfl, rfl⟩
         simp -dsimp only [Vm.E, zA, zB, zC, zD, zE, zG, zH, Tryz.underlying123]
         refine cond_intro (fun hc => ?_) (fun hc => ?_)
         · have hlt : i < k := by have := of_decide_eq_true hc; omega
           simp -dsimp only [Vm.E, zA, zB, zC, zD, zE, zG, zH]
           refine call_one (S := getSpec) rfl _ GaL.rfl ⟨r, ((4 * i : Nat) : Int), 4, by simp only [zKa] at hl; omega, by omega, rfl, ?_⟩
           simp only [getRes4 r i (by omega)]
           simp -dsimp only [Vm.E, zA, zB, zC, zD, zE, zG, zH, es120]
           refine bs_intro zr3 (by decide) (by decide) rfl rfl (by simp [solid, AV.cells]) ?_
           simp -dsimp only [Vm.E, zA, zB, zC, zD, zE, zG, zH, append_own ei120]
           refine app_sl Tryz.underlying120 (by simp [AV.cells]) (by simp [numsK]; omega) ?_
           simp -dsimp only [Vm.E, zA, zB, zC, zD, zE, zG, zH]
           refine kept_intro ⟨k - (i + 1), by omega, _, le_mk [(0, .sl 1 ((t :: r).map encB)), (5, .sl 1 (r.map encB)), (6, .own true 3 1 ((numsK r (i + 1)).map encI)), (7, .v (.int .i64 (4 * (i + 1) : Nat)))] ?_, i + 1, by omega, rfl, rfl⟩
           have ew : IntKind.i64.wrap (((4 * i : Nat) : Int) + 4) = ((4 * (i + 1) : Nat) : Int) := by rw [wrap_i64 (by omega) (by omega)]; omega
           have en : (numsK r i).map encI ++ [AV.v (.int .i64 (num4 r i))] = (numsK r (i + 1)).map encI := by simp [numsK, List.range_succ, encI]
           simp only [Vm.D]
           simp -dsimp only [Vm.E, zA, zB, zC, zD, zE, zG, zH, ew, en]
           exact ⟨.refl _, .refl _, .refl _, .refl _⟩
         · have hge : ¬ i < k := by have := of_decide_eq_false hc; omega
           have : i = k := by omega
           subst this
           simp -dsimp only [Vm.E, zA, zB, zC, zD, zE, zG, zH, es123, as123]
           refine idx_bytes (t :: r) 0 (by simp) ?_
           simp -dsimp only [Vm.E, zA, zB, zC, zD, zE, zG, zH, of5, Tryz.results201]
           exact hq'
     · have d2 : ¬ r.length ≤ 28 := by have := of_decide_eq_true c2; omega
       simp -dsimp only [Vm.E, zA, zB, zC, zD, zE, zG, zH, Tryz.results201]
       exact hq0 (if_neg (by omega))
   · have d1 : ¬ r.length % 4 = 0 := by simp at c1; omega
     simp -dsimp only [Vm.E, zA, zB, zC, zD, zE, zG, zH, Tryz.results201]
     exact hq0 (if_neg (by omega))
def pairSpec : Vm.Spec := fun args h Q => ∃ (tag : UInt8) (k v : Nat) (l : List Int), k ≤ l.length ∧ l.length ≤ 4611686018427387904 ∧ (∀ n ∈ l, I64 n) ∧ args = [.agg [.v (.int .u8 tag.toNat), .v (.int .i64 k), .v (.int .i64 v)], .sl 1 (l.map encI)] ∧
 Q (.agg [.sl 1 ((keyOf tag (l.take k)).map encB), .sl 1 ((packOf (l.drop k)).map encB)]) h
theorem does_pair : Does Tryz.prog 157 pairSpec := by
 refine dA (good_cons does_key (good_cons does_pack good_nil)) Tryz.func157 rfl (by decide +kernel) ?_
 rintro args h Q ⟨tag, k, v, l, hk, hl, hn, rfl, hq⟩
 refine ⟨by simp [Tryz.f157], ?_⟩
 simp -dsimp only [Vm.E, zA, zB, zC, zD, zE, zG, zH, al132]
 refine draw_pub [2] (.take 0 (.take 1 (.take 2 (.take 3 (.take 4 (.take 5 (.take 7 (.take 8 (.take 9 (.take 10 (.alt 6 (.alt 11 (.alt 12 (.alt 13 (.done) .stop) .stop) .stop) .stop))))))))))) (by kernel_rfl) (by kernel_rfl) (by kernel_rfl) (by decide) ?_
 simp -dsimp only [Vm.E, zA, zB, zC, zD, zE, zG, zH, fo198_0, fo198_1, of5, of3]
 refine slice_h es120 (by omega) (by simp; omega) ?_
 simp -dsimp only [Vm.E, zA, zB, zC, zD, zE, zG, zH, fo198_0, fo198_1, of5, of3]
 refine slice_l es120 (by omega) (by simp; omega) ?_
 have e1 : (l.map encI).take (k : Int).toNat = (l.take k).map encI := by rw [zJa, List.map_take]
 have e2 : (l.map encI).drop (k : Int).toNat = (l.drop k).map encI := by rw [zJa, List.map_drop]
 simp -dsimp only [Vm.E, zA, zB, zC, zD, zE, zG, zH, e1, e2]
 refine call_one (S := keySpec) rfl _ GaL.rfl ⟨tag, l.take k, by rw [zOa]; omega, rfl, ?_⟩
 simp -dsimp only [Vm.E, zA, zB, zC, zD, zE, zG, zH]
 refine call_one (S := packSpec) rfl _ GaL.rfl ⟨l.drop k, by rw [List.length_drop]; omega, fun n h => hn n (List.mem_of_mem_drop h), rfl, ?_⟩
 simp -dsimp only [Vm.G, zA, zB, zC, zD, zE, zF, bd132, sz132, of132, Tryz.results157]
 exact hq
def tabSpec (tag : UInt8) (k v : Int) : Vm.Spec := fun args h Q => args = [] ∧ Q (.agg [.v (.int .u8 tag.toNat), .v (.int .i64 k), .v (.int .i64 v)]) h
theorem does_nodes : Does Tryz.prog 156 (tabSpec 78 2 10) := by
 refine dA good_nil Tryz.func156 rfl (by decide +kernel) ?_
 rintro args h Q ⟨rfl, hq⟩
 refine ⟨by simp [Tryz.f156], ?_⟩
 simp -dsimp only [Vm.G, zA, zB, zC, zD, zE, zF, al198, bd198, sz198, of198, Tryz.results156]
 exact hq
def bitOf (b : Bool) : Int := if b then 1 else 0
def bitSpec : Vm.Spec := fun args h Q => ∃ b : Bool, args = [.v (.bool b)] ∧ Q (.v (.int .i64 (bitOf b))) h
theorem does_bit : Does Tryz.prog 158 bitSpec := by
 refine dA good_nil Tryz.func158 rfl (by decide +kernel) ?_
 rintro args h Q ⟨b, rfl, hq⟩
 refine ⟨by simp [Tryz.f158], ?_⟩
 simp -dsimp only [Vm.E, zA, zB, zC, zD, zE, zG, zH]
 cases b
 · simp -dsimp only [Vm.E, zA, zB, zC, zD, zE, zG, zH, Tryz.results158]
   exact hq
 · simp -dsimp only [Vm.E, zA, zB, zC, zD, zE, zG, zH, Tryz.results158]
   exact hq
def numsPair (tag : UInt8) (k v : Nat) (key val : List UInt8) : Option (List Int) :=
 match splitOf key with
 | some (t, l) => if t = tag ∧ l.length = k ∧ val.length = 8 * v then some (l ++ numsOf val v) else none
 | none => none
def numsSpec : Vm.Spec := fun args h Q => ∃ (tag : UInt8) (k v : Nat) (key val : List UInt8), v ≤ 15 ∧ key.length ≤ 4611686018427387904 ∧ val.length ≤ 4611686018427387904 ∧
 args = [.agg [.v (.int .u8 tag.toNat), .v (.int .i64 k), .v (.int .i64 v)], .agg [.sl 1 (key.map encB), .sl 1 (val.map encB)]] ∧
 (∀ l, numsPair tag k v key val = some l → Q (.otup 0 true 3 1 (l.map encI) [.any, .v (.bool true)]) h) ∧ (numsPair tag k v key val = none → Q (.tup [.v (.slice none 0 0), .v (.bool false)]) h)
   ∧ (numsPair tag k v key val = none → ∀ l, Q (.otup 0 true 3 1 l [.any, .v (.bool false)]) h)
theorem numsK_length (b : List UInt8) (n : Nat) : (numsK b n).length = n := by simp [numsK]
theorem does_nums : Does Tryz.prog 190 numsSpec := by
 refine does_of_awpO 0 (good_cons does_split (good_cons does_unpack good_nil)) Tryz.func190 rfl (by decide +kernel) (by decide +kernel) ?_
 rintro args h Q ⟨tag, k, v, key, val, hv, hkl, hvl, rfl, hq1, hq2, hq3⟩
 refine ⟨by simp [Tryz.f190], ?_⟩
 rw [awpFuncO_some (by rfl)]
 unfold numsPair at hq1 hq2 hq3
 simp -dsimp only [Vm.E, zA, zB, zC, zD, zE, zG, zH, fo132_0, of123]
 refine call_one (S := splitSpec) rfl _ GaL.rfl ⟨key, hkl, rfl, fun hs => ?_, fun t l hs => ?_⟩
 · rw [hs] at hq2
   unfold noKey
   simp -dsimp only [Vm.E, zA, zB, zC, zD, zE, zG, zH, Tryz.results190]
   exact hq2 rfl
 · rw [hs] at hq1 hq2 hq3
   simp -dsimp only [Vm.E, zA, zB, zC, zD, zE, zG, zH, fo198_0, of5]
   cases c1 : ((t.toNat : Int) != tag.toNat)
   · have d1 : t = tag := by
       have : (t.toNat : Int) = tag.toNat := by simpa using c1
       exact UInt8.toNat_inj.1 (by omega)
     simp -dsimp only [Vm.E, zA, zB, zC, zD, zE, zG, zH, fo198_1, of3, Tryz.underlying120]
     cases c2 : ((l.length : Int) != k)
     · have d2 : l.length = k := by simp at c2; omega
       simp -dsimp only [Vm.E, zA, zB, zC, zD, zE, zG, zH, fo132_1, of123, fo198_2, of3]
       refine call_one (S := unpackSpec) rfl _ GaL.rfl ⟨val, v, hvl, by unfold I64; omega, rfl, ?_⟩
       unfold unpackRes
       rw [if_neg (by omega)]
       by_cases d3 : val.length = 8 * v
       · rw [if_neg (by omega), zJa]
         simp -dsimp only [Vm.E, zA, zB, zC, zD, zE, zG, zH, append_own ei120]
         have hl7 : l.length ≤ 7 := by
           unfold splitOf at hs
           split at hs
           · cases hs
           · split at hs
             · rename_i hc; cases hs; rw [numsK_length]; omega
             · cases hs
         refine app_sl Tryz.underlying120 (by simp [AV.cells, encI]) (by simp [numsOf]; omega) ?_
         simp -dsimp only [Vm.E, zA, zB, zC, zD, zE, zG, zH, beq_self_eq_true, Tryz.results190]
         have := hq1 (l ++ numsOf val v) (if_pos ⟨d1, d2, d3⟩)
         simpa using this
       · rw [if_pos (by omega)]
         simp -dsimp only [Vm.E, zA, zB, zC, zD, zE, zG, zH, append_own ei120]
         refine app_nil (e' := 3) Tryz.underlying120 ?_ ?_
         · unfold splitOf at hs
           split at hs
           · cases hs
           · split at hs
             · rename_i hc; cases hs; simp [numsK]; omega
             · cases hs
         · simp -dsimp only [Vm.E, zA, zB, zC, zD, zE, zG, zH, Tryz.results190]
           exact hq3 (if_neg fun hc => d3 hc.2.2) _
     · have d2 : ¬ l.length = k := by simp at c2; omega
       simp -dsimp only [Vm.E, zA, zB, zC, zD, zE, zG, zH, Tryz.results190]
       exact hq2 (if_neg fun hc => d2 hc.2.1)
   · have d1 : ¬ t = tag := fun e => by subst e; simp at c1
     simp -dsimp only [Vm.E, zA, zB, zC, zD, zE, zG, zH, fo198_1, of3, Tryz.underlying120, Tryz.results190]
     exact hq2 (if_neg fun hc => d1 hc.1)
structure Nd where
 year : Int
 id : Int
 parent : Int
 fund : Int
 obj : Int
 abs : Bool
 limit : Int
 pre : Int
 enc : Int
 exp : Int
 lapsed : Int
 carried : Int
def Nd.zero : Nd := ⟨0, 0, 0, 0, 0, false, 0, 0, 0, 0, 0, 0⟩
def ndCells (n : Nd) : List AV := [.v (.int .i64 n.year), .v (.int .i64 n.id), .v (.int .i64 n.parent), .v (.int .i64 n.fund), .v (.int .i64 n.obj), .v (.bool n.abs), .v (.int .i64 n.limit), .v (.int .i64 n.pre), .v (.int .i64 n.enc), .v (.int .i64 n.exp), .v (.int .i64 n.lapsed), .v (.int .i64 n.carried)]
def ndKey (n : Nd) : List Int := [n.year, n.id]
def ndVal (n : Nd) : List Int := [n.parent, n.fund, n.obj, bitOf n.abs, n.limit, n.pre, n.enc, n.exp, n.lapsed, n.carried]
def Nd.ok (n : Nd) : Prop := I64 n.year ∧ I64 n.id ∧ I64 n.parent ∧ I64 n.fund ∧ I64 n.obj ∧ I64 n.limit ∧ I64 n.pre ∧ I64 n.enc ∧ I64 n.exp ∧ I64 n.lapsed ∧ I64 n.carried
theorem bit_i64 (b : Bool) : I64 (bitOf b) := by cases b <;> (unfold I64 bitOf; simp)
def nodeSpec : Vm.Spec := fun args h Q => ∃ n : Nd, n.ok ∧ args = [.agg (ndCells n)] ∧ Q (.agg [.sl 1 ((keyOf 78 (ndKey n)).map encB), .sl 1 ((packOf (ndVal n)).map encB)]) h
theorem does_node : Does Tryz.prog 83 nodeSpec := by
 refine dA (good_cons does_nodes (good_cons does_bit (good_cons does_pair good_nil))) Tryz.func83 rfl (by decide +kernel) ?_
 rintro args h Q ⟨n, ⟨o1, o2, o3, o4, o5, o6, o7, o8, o9, o10, o11⟩, rfl, hq⟩
 refine ⟨by simp [Tryz.f83], ?_⟩
 simp -dsimp only [Vm.E, zA, zB, zC, zD, zE, zG, zH, ndCells, al132]
 refine draw_pub [1] (.take 1 (.take 2 (.take 3 (.take 4 (.take 5 (.take 6 (.take 7 (.take 8 (.take 9 (.take 10 (.take 11 (.take 12 (.take 14 (.take 15 (.take 16 (.take 17 (.take 18 (.take 19 (.take 20 (.take 21 (.take 22 (.take 23 (.take 24 (.take 25 (.alt 0 (.alt 13 (.alt 26 (.alt 27 (.alt 28 (.done) .stop) .stop) .stop) .stop) .stop))))))))))))))))))))))))) (by kernel_rfl) (by kernel_rfl) (by kernel_rfl) (by decide) ?_
 simp -dsimp only [Vm.E, zA, zB, zC, zD, zE, zG, zH, fo29_0, fo29_1, fo29_2, fo29_3, fo29_4, fo29_5, fo29_6, fo29_7, fo29_8, fo29_9, fo29_10, fo29_11, of3, of4]
 refine call_one (S := tabSpec 78 2 10) rfl _ GaL.rfl ⟨rfl, ?_⟩
 simp -dsimp only [Vm.E, zA, zB, zC, zD, zE, zG, zH]
 refine call_one (S := bitSpec) rfl _ GaL.rfl ⟨n.abs, rfl, ?_⟩
 simp -dsimp only [Vm.E, zA, zB, zC, zD, zE, zG, zH, es120]
 refine bs_intro zr3 (by decide) (by decide) rfl rfl (by simp [solid, AV.cells]) ?_
 simp -dsimp only [Vm.E, zA, zB, zC, zD, zE, zG, zH]
 refine call_one (S := pairSpec) rfl _ GaL.rfl ⟨78, 2, 10, [n.year, n.id, n.parent, n.fund, n.obj, bitOf n.abs, n.limit, n.pre, n.enc, n.exp, n.lapsed, n.carried], by simp, by simp, ?_, rfl, ?_⟩
 · intro m hm
   simp only [zLb, List.not_mem_nil, or_false] at hm
   have ob := bit_i64 n.abs
   rcases hm with rfl | rfl | rfl | rfl | rfl | rfl | rfl | rfl | rfl | rfl | rfl | rfl <;> assumption
 · simp -dsimp only [Vm.G, zA, zB, zC, zD, zE, zF, sz132, of132, Tryz.results83]
   exact hq
def ndOf (l : List Int) : Nd := ⟨l.getD 0 0, l.getD 1 0, l.getD 2 0, l.getD 3 0, l.getD 4 0, l.getD 5 0 != 0, l.getD 6 0, l.getD 7 0, l.getD 8 0, l.getD 9 0, l.getD 10 0, l.getD 11 0⟩
def nodeOf (key val : List UInt8) : Option Nd := (numsPair 78 2 10 key val).map ndOf
def nodeOfSpec : Vm.Spec := fun args h Q => ∃ key val : List UInt8, key.length ≤ 4611686018427387904 ∧ val.length ≤ 4611686018427387904 ∧ args = [.agg [.sl 1 (key.map encB), .sl 1 (val.map encB)]] ∧
 (∀ n, nodeOf key val = some n → Q (.tup [.agg (ndCells n), .v (.bool true)]) h) ∧ (nodeOf key val = none → Q (.tup [.agg (ndCells .zero), .v (.bool false)]) h)
theorem numsPair_length {tag : UInt8} {k v : Nat} {key val : List UInt8} {l : List Int} (h : numsPair tag k v key val = some l) : l.length = k + v := by
 unfold numsPair at h
 split at h
 · split at h
   · rename_i hc; cases h; simp [numsOf, hc.2.1]
   · cases h
 · cases h
theorem does_nodeOf : Does Tryz.prog 119 nodeOfSpec := by
 refine dA (good_cons does_nodes (good_cons does_nums good_nil)) Tryz.func119 rfl (by decide +kernel) ?_
 rintro args h Q ⟨key, val, hk, hv, rfl, hq1, hq2⟩
 refine ⟨by simp [Tryz.f119], ?_⟩
 unfold nodeOf at hq1 hq2
 simp -dsimp only [Vm.E, zA, zB, zC, zD, zE, zG, zH, al29]
 refine draw_cont [1] (.take 1 (.alt 0 (.alt 2 (.take 3 (.take 4 (.take 5 (.alt 6 (.alt 7 (.done) .stop) .stop)))) .stop) .stop)) (fun s h' => h' = h ∧ s 2 = .box (ndCells .zero) ∧ ((∃ l, numsPair 78 2 10 key val = some l ∧ s 4 = .own true 3 1 (l.map encI) ∧ s 5 = .v (.bool true)) ∨ (numsPair 78 2 10 key val = none ∧ s 5 = .v (.bool false))))
   (by kernel_rfl) (by kernel_rfl) (by kernel_rfl) (by decide) ?_ ?_
 · simp -dsimp only [Vm.G, zA, zB, zC, zD, zE, zF, of132]
   refine call_one (S := tabSpec 78 2 10) rfl _ GaL.rfl ⟨rfl, ?_⟩
   simp -dsimp only [Vm.E, zA, zB, zC, zD, zE, zG, zH]
   refine call_one (S := numsSpec) rfl _ GaL.rfl ⟨78, 2, 10, key, val, by decide, hk, hv, rfl, fun l hl => ?_, fun hl => ?_, fun hl l => ?_⟩
   · simp -dsimp only [Vm.E, zA, zB, zC, zD, zE, zG, zH]
     exact ⟨rfl, .inl ⟨l, hl, rfl, trivial⟩⟩
   · simp -dsimp only [Vm.E, zA, zB, zC, zD, zE, zG, zH]
     exact ⟨rfl, .inr ⟨hl, trivial⟩⟩
   · simp -dsimp only [Vm.E, zA, zB, zC, zD, zE, zG, zH]
     exact ⟨rfl, .inr ⟨hl, trivial⟩⟩
 · rintro s h' ⟨rfl, hs2, ⟨l, hl, hs4, hs5⟩ | ⟨hl, hs5⟩⟩
   · rw [hl] at hq1
     have hlen := numsPair_length hl
     have hq1' := hq1 (ndOf l) rfl
     clear hq1 hq2 hl
     match l, hlen with
     | [a0, a1, a2, a3, a4, a5, a6, a7, a8, a9, a10, a11], _ =>
     simp -dsimp only [Vm.E, zA, zB, zC, zD, zE, zG, zH, hs5]
     refine draw_cont [4] (.take 0 (.take 1 (.take 2 (.take 3 (.take 4 (.take 5 (.take 6 (.take 7 (.take 8 (.take 9 (.take 10 (.take 11 (.take 12 (.take 13 (.take 14 (.take 15 (.take 16 (.take 17 (.take 18 (.alt 19 (.alt 20 (.alt 21 (.done) .stop) .stop) (.alt 20 (.alt 19 (.alt 21 (.done) .stop) .stop) (.stop)))))))))))))))))))))) (fun s h'' => h'' = h' ∧ s 2 = .box (ndCells .zero) ∧ s 4 = .sl 1 ([a0, a1, a2, a3, a4, a5, a6, a7, a8, a9, a10, a11].map encI) ∧
         s 6 = .box [.v (.int .i64 a0), .v (.int .i64 a1), .v (.int .i64 a2), .v (.int .i64 a3), .v (.int .i64 a4), .v (.bool (a5 != 0)), .v (.int .i64 0), .v (.int .i64 0), .v (.int .i64 0), .v (.int .i64 0), .v (.int .i64 0), .v (.int .i64 0)])
       (by kernel_rfl) (by kernel_rfl) (by kernel_rfl) (by decide) ?_ ?_
     · simp -dsimp only [Vm.E, zA, zB, zC, zD, zE, zG, zH, idx_lit, idxE_some, Int.reduceToNat, Int.reduceLE, decide_true, eq_self, hs2, hs4, hs5, encI, es120, as120, of3]
       refine tree_alt ?_ (tree_alt ?_ trivial)
       · simp -dsimp only [Vm.G, zA, zB, zC, zD, zE, zF, hs2, hs4, hs5, al29, bd29, sz29]
       · simp -dsimp only [Vm.G, zA, zB, zC, zD, zE, zF, hs2, hs4, hs5, al29, bd29, sz29]
     · rintro s2 h2 ⟨rfl, g2, g4, g6⟩
       clear hs2 hs4 hs5
       simp -dsimp only [Vm.E, zA, zB, zC, zD, zE, zG, zH]
       refine draw_intro (.take 0 (.take 1 (.take 2 (.take 3 (.take 4 (.take 5 (.take 6 (.take 7 (.take 8 (.take 9 (.take 10 (.take 11 (.take 12 (.alt 13 (.take 14 (.alt 15 (.take 16 (.alt 17 (.take 18 (.alt 19 (.done) .stop)) .stop)) .stop)) .stop)))))))))))))) (by kernel_rfl) (by kernel_rfl) (by kernel_rfl) (by decide) ?_
       simp -dsimp only [Vm.E, zA, zB, zC, zD, zE, zG, zH, idx_lit, idxE_some, Int.reduceToNat, Int.reduceLE, decide_true, eq_self, Vm.S, Nat.reduceLeDiff, g2, g4, g6, encI, es120, as120, of3, sz3, fo29_6, fo29_7, fo29_8, fo29_9]
       refine draw_intro (.take 0 (.take 1 (.take 2 (.take 3 (.take 4 (.take 5 (.take 6 (.alt 7 (.take 8 (.alt 9 (.done) .stop)) .stop)))))))) (by kernel_rfl) (by kernel_rfl) (by kernel_rfl) (by decide) ?_
       simp -dsimp only [Vm.E, zA, zB, zC, zD, zE, zG, zH, idx_lit, idxE_some, Int.reduceToNat, Int.reduceLE, decide_true, eq_self, Vm.S, Nat.reduceLeDiff, g2, g4, g6, encI, es120, as120, of3, sz3, fo29_10, fo29_11, of29, sz29, ndCells, Tryz.results119]
       exact hq1'
   · rw [hl] at hq2
     simp -dsimp only [Vm.G, zA, zB, zC, zD, zE, zF, hs2, hs5, ndCells, bd29, sz29, of29, Tryz.results119]
     exact hq2 rfl
def vgetWSpec : Vm.Spec := fun args h Q => ∃ V f k, args = [.ptr V.iv 0, .sl 1 (k.map encB)] ∧ isView h V f ∧ (∀ l, f k = some l → Q (.tup [.sl 1 (l.map encB), .v (.bool true)]) h) ∧ (f k = none → Q (.tup [.sl 1 [], .v (.bool false)]) h)
theorem does_vgetW : Does Tryz.prog 138 vgetWSpec := by
 refine does_vget.weak.imp ?_
 rintro args h Q ⟨V, f, k, rfl, hV, hq1, hq2⟩
 exact ⟨V, f, k, rfl, hV, fun x l hx hf => ⟨_, .tup (.cons hx.ga GaL.rfl), hq1 l hf⟩, fun x hx hf => ⟨_, .tup (.cons hx.ga GaL.rfl), hq2 hf⟩⟩
def ndK (n : Nd) : List UInt8 := keyOf 78 (ndKey n)
def ndV (n : Nd) : List UInt8 := packOf (ndVal n)
theorem ndK_length (n : Nd) : (ndK n).length = 9 := by simp [ndK, keyOf, ndKey, packs, be_length]
theorem ndV_length (n : Nd) : (ndV n).length = 80 := by simp [ndV, packOf, ndVal, packs, be_length]
theorem right_nd (n : Nd) : rightKV (ndK n) (ndV n) = true := by
 simp [rightKV, ndK_length, ndV_length]
def tputSpec : Vm.Spec := fun args h Q => ∃ V f n, args = [.ptr V.iv 0, .agg (ndCells n)] ∧ n.ok ∧ isView h V f ∧ ∀ h', isView h' V (upd f (ndK n) (some (ndV n))) → Same h h' [V.ic] → Q (.v (.int .i64 0)) h'
theorem does_tput : Does Tryz.prog 28 tputSpec := by
 refine dA (good_cons does_node (good_cons does_vput good_nil)) Tryz.func28 rfl (by decide +kernel) ?_
 rintro args h Q ⟨V, f, n, rfl, hn, hV, hq⟩
 refine ⟨by simp [Tryz.f28], ?_⟩
 simp -dsimp only [Vm.G, zA, zB, zC, zD, zE, zF, ndCells, of29]
 refine call_one (S := nodeSpec) rfl _ GaL.rfl ⟨n, hn, rfl, ?_⟩
 simp -dsimp only [Vm.G, zA, zB, zC, zD, zE, zF, al132, sz132, fo132_0, fo132_1, of123]
 refine call_one (S := vputSpec) rfl _ GaL.rfl ⟨V, f, ndK n, ndV n, rfl, hV, fun _ h' g1 g2 => ?_, fun hc => by rw [right_nd] at hc; cases hc⟩
 simp -dsimp only [Vm.E, zA, zB, zC, zD, zE, zG, zH, Tryz.results28]
 exact hq h' g1 g2
def nodeAt (f : Fun) (year id : Int) : Option Nd :=
 match f (keyOf 78 [year, id]) with
 | none => none
 | some val => match nodeOf (keyOf 78 [year, id]) val with
   | some n => if n.year = year ∧ n.id = id then some n else none
   | none => none
def tnodeSpec : Vm.Spec := fun args h Q => ∃ V f year id, args = [.agg [.ptr V.iv 0, .v (.int .i64 year)], .v (.int .i64 id)] ∧ isView h V f ∧
 (∀ n, nodeAt f year id = some n → Q (.tup [.agg (ndCells n), .v (.bool true)]) h) ∧ (nodeAt f year id = none → Q (.tup [.agg (ndCells .zero), .v (.bool false)]) h)
theorem key2_length (t : UInt8) (a b : Int) : (keyOf t [a, b]).length = 9 := by simp [keyOf, packs, be_length]
theorem does_tnode : Does Tryz.prog 136 tnodeSpec := by
 refine dA (good_cons does_key (good_cons does_vgetW (good_cons does_nodeOf good_nil))) Tryz.func136 rfl (by decide +kernel) ?_
 rintro args h Q ⟨V, f, year, id, rfl, hV, hq1, hq2⟩
 refine ⟨by simp [Tryz.f136], ?_⟩
 unfold nodeAt at hq1 hq2
 simp -dsimp only [Vm.G, zA, zB, zC, zD, zE, zF, al29, fo91_1, of3, es120]
 refine bs_intro zr3 (by decide) (by decide) rfl rfl (by simp [solid, AV.cells]) ?_
 simp -dsimp only [Vm.E, zA, zB, zC, zD, zE, zG, zH]
 refine call_one (S := keySpec) rfl _ GaL.rfl ⟨78, [year, id], by simp, rfl, ?_⟩
 simp -dsimp only [Vm.E, zA, zB, zC, zD, zE, zG, zH, fo91_0, of24]
 have hk := key2_length 78 year id
 generalize keyOf 78 [year, id] = key at hk hq1 hq2 ⊢
 refine call_one (S := vgetWSpec) rfl _ GaL.rfl ⟨V, f, key, rfl, hV, fun val hf => ?_, fun hf => ?_⟩
 · have hvl := hV.len _ _ hf
   rw [hf] at hq1 hq2
   simp -dsimp only [Vm.G, zA, zB, zC, zD, zE, zF, bd132]
   refine call_one (S := nodeOfSpec) rfl _ GaL.rfl ⟨key, val, by omega, by omega, rfl, fun n hn => ?_, fun hn => ?_⟩
   · have hq1 : ∀ m, (if n.year = year ∧ n.id = id then some n else none) = some m → Q (.tup [.agg (ndCells m), .v (.bool true)]) h := fun m hm => hq1 m (by simp only [hn]; exact hm)
     have hq2 : (if n.year = year ∧ n.id = id then some n else none) = none → Q (.tup [.agg (ndCells .zero), .v (.bool false)]) h := fun hm => hq2 (by simp only [hn]; exact hm)
     simp -dsimp only [Vm.G, zA, zB, zC, zD, zE, zF, ndCells, al29, sz29, fo29_0, of3, fo91_1]
     cases c1 : (n.year != year)
     · have d1 : n.year = year := by simpa using c1
       simp -dsimp only [Vm.G, zA, zB, zC, zD, zE, zF, fo29_1, of3]
       cases c2 : (n.id != id)
       · have d2 : n.id = id := by simpa using c2
         simp -dsimp only [Vm.G, zA, zB, zC, zD, zE, zF, sz29, of29, Tryz.results136]
         exact hq1 n (if_pos ⟨d1, d2⟩)
       · have d2 : ¬ n.id = id := by simpa using c2
         simp -dsimp only [Vm.G, zA, zB, zC, zD, zE, zF, bd29, sz29, of29, Tryz.results136]
         exact hq2 (if_neg fun hc => d2 hc.2)
     · have d1 : ¬ n.year = year := by simpa using c1
       simp -dsimp only [Vm.G, zA, zB, zC, zD, zE, zF, bd29, sz29, of29, Tryz.results136]
       exact hq2 (if_neg fun hc => d1 hc.1)
   · have hq2 := hq2 (by simp only [hn])
     simp -dsimp only [Vm.G, zA, zB, zC, zD, zE, zF, ndCells, al29, bd29, sz29, of29, Tryz.results136]
     exact hq2
 · rw [hf] at hq2
   simp -dsimp only [Vm.G, zA, zB, zC, zD, zE, zF, al29, bd29, sz29, of29, Tryz.results136]
   exact hq2 rfl
def pathOf (f : Fun) (year : Int) : Nat → Int → List Nd
 | 0, _ => []
 | k + 1, id => match nodeAt f year id with
   | none => []
   | some n => n :: if n.parent = 0 then [] else pathOf f year k n.parent
def ndAv (n : Nd) : AV := .agg (ndCells n)
def tpathSpec : Vm.Spec := fun args h Q => ∃ V f year id, args = [.ptr V.iv 0, .v (.int .i64 year), .v (.int .i64 id)] ∧ isView h V f ∧ Q (.own true 29 12 ((pathOf f year 8 id).map ndAv)) h
theorem does_tpath : Does Tryz.prog 137 tpathSpec := by
 refine dA (good_cons does_tnode good_nil) Tryz.func137 rfl (by decide +kernel) ?_
 rintro args h Q ⟨V, f, year, id, rfl, hV, hq⟩
 refine ⟨by simp [Tryz.f137], ?_⟩
 simp -dsimp only [Vm.G, zA, zB, zC, zD, zE, zF, al91, bd91, sz91]
 refine awp_loop (fun m s h' => ∃ (i : Nat) (id' : Int) (done : List Nd), i + m = 8 ∧ done.length ≤ i ∧ h' = h ∧ done ++ pathOf f year m id' = pathOf f year 8 id ∧
     s = mk [(2, .v (.int .i64 id')), (7, .box [.ptr V.iv 0, .v (.int .i64 year)]), (8, .own true 29 12 (done.map ndAv)), (14, .v (.int .i64 i))])
   8 _ (le_mk _ ?_) ⟨0, id, [], by omega, by simp, rfl, rfl, rfl⟩ ?_
 · simp only [Vm.D]
   simp -dsimp only [Vm.E, zA, zB, zC, zD, zE, zG, zH]
   exact ⟨.refl _, .refl _, .nil _ _ _ (by decide), .refl _⟩
 · rintro m s h' ⟨i, id', done, hi, hd, rfl, hp, rfl⟩
   simp -dsimp only [Vm.E, zA, zB, zC, zD, zE, zG, zH]
   refine cond_intro (fun hc => ?_) (fun hc => ?_)
   · have hlt : i < 8 := by have := of_decide_eq_true hc; omega
     have hm : m = (m - 1) + 1 := by omega
     generalize m - 1 = k at hm
     rw [hm] at hp
     simp only [pathOf] at hp
     simp -dsimp only [Vm.G, zA, zB, zC, zD, zE, zF, of91]
     refine call_one (S := tnodeSpec) rfl _ GaL.rfl ⟨V, f, year, id', rfl, hV, fun n hn => ?_, fun hn => ?_⟩
     · rw [hn] at hp
       have hp : done ++ (n :: if n.parent = 0 then [] else pathOf f year k n.parent) = pathOf f year 8 id := hp
       simp -dsimp only [Vm.G, zA, zB, zC, zD, zE, zF, ndCells, al29, sz29, of29, es36]
       refine bs_intro zr29 (by decide) (by decide) rfl rfl (by simp [solid, AV.cells]) ?_
       simp -dsimp only [Vm.E, zA, zB, zC, zD, zE, zG, zH, append_own ei36]
       refine app_sl Tryz.underlying36 (by simp [AV.cells]) (by simp; omega) ?_
       have ed : done.map ndAv ++ [AV.agg [.v (.int .i64 n.year), .v (.int .i64 n.id), .v (.int .i64 n.parent), .v (.int .i64 n.fund), .v (.int .i64 n.obj), .v (.bool n.abs), .v (.int .i64 n.limit), .v (.int .i64 n.pre), .v (.int .i64 n.enc), .v (.int .i64 n.exp), .v (.int .i64 n.lapsed), .v (.int .i64 n.carried)]] = (done ++ [n]).map ndAv := by
         simp [ndAv, ndCells]
       simp -dsimp only [Vm.G, zA, zB, zC, zD, zE, zF, ed, fo29_2, of3]
       cases c1 : (n.parent == 0)
       · have d1 : ¬ n.parent = 0 := by simpa using c1
         rw [if_neg d1] at hp
         simp -dsimp only [Vm.G, zA, zB, zC, zD, zE, zF, fo29_2, of3]
         have hw := hwN i (by omega)
         refine kept_intro ⟨k, by omega, _, le_mk [(2, .v (.int .i64 n.parent)), (7, .box [.ptr V.iv 0, .v (.int .i64 year)]), (8, .own true 29 12 ((done ++ [n]).map ndAv)), (14, .v (.int .i64 (i + 1 : Nat)))] ?_,
           i + 1, n.parent, done ++ [n], by omega, by simp; omega, rfl, by simpa using hp, rfl⟩
         simp only [Vm.D]
         simp -dsimp only [Vm.E, zA, zB, zC, zD, zE, zG, zH, hw]
         exact ⟨.refl _, .refl _, .refl _, .refl _⟩
       · have d1 : n.parent = 0 := by simpa using c1
         rw [if_pos d1] at hp
         simp -dsimp only [Vm.E, zA, zB, zC, zD, zE, zG, zH, Tryz.results137]
         rw [← hp] at hq
         exact hq
     · rw [hn] at hp
       have hp : done ++ [] = pathOf f year 8 id := hp
       simp -dsimp only [Vm.G, zA, zB, zC, zD, zE, zF, ndCells, al29, sz29, Tryz.results137]
       rw [← hp] at hq
       simpa using hq
   · have hge : ¬ i < 8 := by have := of_decide_eq_false hc; omega
     have hm : m = 0 := by omega
     rw [hm] at hp
     simp -dsimp only [Vm.E, zA, zB, zC, zD, zE, zG, zH, Tryz.results137]
     rw [← hp] at hq
     simpa [pathOf] using hq
def predSpec (p : Int → Bool) : Vm.Spec := fun args h Q => ∃ n : Int, args = [.v (.int .i64 n)] ∧ Q (.v (.bool (p n))) h
def smallP (n : Int) : Bool := decide (-1152921504606846976 ≤ n) && decide (n ≤ 1152921504606846976)
def figureP (n : Int) : Bool := decide (0 ≤ n) && decide (n ≤ 1152921504606846976)
def withinP (n : Int) : Bool := decide (-9007199254740992 ≤ n) && decide (n ≤ 9007199254740992)
theorem does_small : Does Tryz.prog 281 (predSpec smallP) := by
 refine dA good_nil Tryz.func281 rfl (by decide +kernel) ?_
 rintro args h Q ⟨n, rfl, hq⟩
 refine ⟨by simp [Tryz.f281], ?_⟩
 unfold smallP at hq
 simp -dsimp only [Vm.E, zA, zB, zC, zD, zE, zG, zH]
 cases h1 : decide (-1152921504606846976 ≤ n)
 · rw [h1] at hq
   simp -dsimp only [Vm.E, zA, zB, zC, zD, zE, zG, zH, Tryz.results281]
   exact hq
 · rw [h1] at hq
   simp -dsimp only [Vm.E, zA, zB, zC, zD, zE, zG, zH, Tryz.results281]
   exact hq
theorem does_figure : Does Tryz.prog 225 (predSpec figureP) := by
 refine dA good_nil Tryz.func225 rfl (by decide +kernel) ?_
 rintro args h Q ⟨n, rfl, hq⟩
 refine ⟨by simp [Tryz.f225], ?_⟩
 unfold figureP at hq
 simp -dsimp only [Vm.E, zA, zB, zC, zD, zE, zG, zH]
 cases h1 : decide (0 ≤ n)
 · rw [h1] at hq
   simp -dsimp only [Vm.E, zA, zB, zC, zD, zE, zG, zH, Tryz.results225]
   exact hq
 · rw [h1] at hq
   simp -dsimp only [Vm.E, zA, zB, zC, zD, zE, zG, zH, Tryz.results225]
   exact hq
theorem does_within : Does Tryz.prog 223 (predSpec withinP) := by
 refine dA good_nil Tryz.func223 rfl (by decide +kernel) ?_
 rintro args h Q ⟨n, rfl, hq⟩
 refine ⟨by simp [Tryz.f223], ?_⟩
 unfold withinP at hq
 simp -dsimp only [Vm.E, zA, zB, zC, zD, zE, zG, zH]
 cases h1 : decide (-9007199254740992 ≤ n)
 · rw [h1] at hq
   simp -dsimp only [Vm.E, zA, zB, zC, zD, zE, zG, zH, Tryz.results223]
   exact hq
 · rw [h1] at hq
   simp -dsimp only [Vm.E, zA, zB, zC, zD, zE, zG, zH, Tryz.results223]
   exact hq
def preds : List (FuncId × Vm.Spec) := [(281, predSpec smallP), (225, predSpec figureP), (223, predSpec withinP)]
theorem good_preds : Good (tab preds) := good_cons does_small (good_cons does_figure (good_cons does_within good_nil))
def allSpec : Vm.Spec := fun args h Q => ∃ (f : FuncId) (p : Int → Bool) (l : List Int), tab preds f = some (predSpec p) ∧ l.length ≤ 4611686018427387904 ∧ args = [.clo f [], .sl 1 (l.map encI)] ∧ Q (.v (.bool (l.all p))) h
theorem all_split (p : Int → Bool) (l : List Int) (i : Nat) (hi : i < l.length) : (l.drop i).all p = (p l[i] && (l.drop (i + 1)).all p) := by
 rw [List.drop_eq_getElem_cons hi, List.all_cons]
theorem does_all : Does Tryz.prog 224 allSpec := by
 refine dA good_preds Tryz.func224 rfl (by decide +kernel) ?_
 rintro args h Q ⟨f, p, l, hT, hl, rfl, hq⟩
 refine ⟨by simp [Tryz.f224], ?_⟩
 simp -dsimp only [Vm.E, zA, zB, zC, zD, zE, zG, zH, Tryz.underlying120]
 refine awp_loop (fun m s h' => ∃ i : Nat, i + m = l.length ∧ h' = h ∧ (l.drop i).all p = l.all p ∧ s = mk [(0, .clo f []), (7, .sl 1 (l.map encI)), (8, .v (.int .i64 l.length)), (9, .v (.int .i64 i))])
   l.length _ (le_mk _ ?_) ⟨0, by omega, rfl, rfl, rfl⟩ ?_
 · simp only [Vm.D]
   simp -dsimp only [Vm.E, zA, zB, zC, zD, zE, zG, zH]
   exact ⟨.refl _, .refl _, .refl _, .refl _⟩
 · rintro m s h' ⟨i, hi, rfl, hp, rfl⟩
   simp -dsimp only [Vm.E, zA, zB, zC, zD, zE, zG, zH]
   refine cond_intro (fun hc => ?_) (fun hc => ?_)
   · have hlt : i < l.length := by have := of_decide_eq_true hc; omega
     rw [all_split p l i hlt] at hp
     simp -dsimp only [Vm.E, zA, zB, zC, zD, zE, zG, zH, es120, as120]
     refine idx_ints l i hlt ?_
     simp -dsimp only [Vm.E, zA, zB, zC, zD, zE, zG, zH, of3]
     refine call_one (S := predSpec p) hT _ GaL.rfl ⟨l[i], rfl, ?_⟩
     simp -dsimp only [Vm.E, zA, zB, zC, zD, zE, zG, zH]
     cases hpi : p l[i]
     · rw [hpi] at hp
       simp -dsimp only [Vm.E, zA, zB, zC, zD, zE, zG, zH, Tryz.results224]
       rw [← hp] at hq
       exact hq
     · rw [hpi] at hp
       have hw := hwN i (by omega)
       simp -dsimp only [Vm.E, zA, zB, zC, zD, zE, zG, zH]
       refine kept_intro ⟨l.length - (i + 1), by omega, _, le_mk [(0, .clo f []), (7, .sl 1 (l.map encI)), (8, .v (.int .i64 l.length)), (9, .v (.int .i64 (i + 1 : Nat)))] ?_, i + 1, by omega, rfl, by simpa using hp, rfl⟩
       simp only [Vm.D]
       simp -dsimp only [Vm.E, zA, zB, zC, zD, zE, zG, zH, hw]
       exact ⟨.refl _, .refl _, .refl _, .refl _⟩
   · have hge : ¬ i < l.length := by have := of_decide_eq_false hc; omega
     simp -dsimp only [Vm.E, zA, zB, zC, zD, zE, zG, zH, Tryz.results224]
     rw [List.drop_of_length_le (by omega)] at hp
     rw [← hp] at hq
     exact hq
abbrev w64 (n : Int) : Int := IntKind.i64.wrap n
def usedOf (n : Nd) : Int := w64 (w64 (n.pre + n.enc) + n.exp)
def usedSpec : Vm.Spec := fun args h Q => ∃ n, args = [.agg (ndCells n)] ∧ Q (.v (.int .i64 (usedOf n))) h
theorem does_used : Does Tryz.prog 15 usedSpec := by
 refine dA good_nil Tryz.func15 rfl (by decide +kernel) ?_
 rintro args h Q ⟨n, rfl, hq⟩
 refine ⟨by simp [Tryz.f15], ?_⟩
 simp -dsimp only [Vm.G, zA, zB, zC, zD, zE, zF, ndCells, fo29_7, fo29_8, fo29_9, of3, Tryz.results15]
 exact hq
def allowsOf (n : Nd) (more : Int) : Bool × Bool :=
 if more > 1152921504606846976 ∨ ¬ (smallP (usedOf n) = true ∧ smallP n.limit = true) then (false, false)
 else if more < 1 ∨ more ≤ w64 (n.limit - usedOf n) then (true, false)
 else (!n.abs, !n.abs)
def allowsSpec : Vm.Spec := fun args h Q => ∃ n more, args = [.agg (ndCells n), .v (.int .i64 more)] ∧ Q (.tup [.v (.bool (allowsOf n more).1), .v (.bool (allowsOf n more).2)]) h
theorem does_allows : Does Tryz.prog 226 allowsSpec := by
 refine dA (good_cons does_used (good_cons does_all good_nil)) Tryz.func226 rfl (by decide +kernel) ?_
 rintro args h Q ⟨n, more, rfl, hq⟩
 refine ⟨by simp [Tryz.f226], ?_⟩
 unfold allowsOf at hq
 simp -dsimp only [Vm.G, zA, zB, zC, zD, zE, zF, ndCells, of29]
 refine call_one (S := usedSpec) rfl _ GaL.rfl ⟨n, rfl, ?_⟩
 simp -dsimp only [Vm.E, zA, zB, zC, zD, zE, zG, zH]
 cases c1 : decide (more > 1152921504606846976)
 · have d1 : ¬ more > 1152921504606846976 := of_decide_eq_false c1
   simp -dsimp only [Vm.G, zA, zB, zC, zD, zE, zF, fo29_6, of3, es120]
   refine bs_intro zr3 (by decide) (by decide) rfl rfl (by simp [solid, AV.cells]) ?_
   simp -dsimp only [Vm.E, zA, zB, zC, zD, zE, zG, zH]
   refine call_one (S := allSpec) rfl _ GaL.rfl ⟨281, smallP, [usedOf n, n.limit], rfl, by simp, rfl, ?_⟩
   simp only [List.all_cons, List.all_nil, Bool.and_true]
   cases c2 : (smallP (usedOf n) && smallP n.limit)
   · have d2 : ¬ (smallP (usedOf n) = true ∧ smallP n.limit = true) := fun hc => by rw [hc.1, hc.2] at c2; cases c2
     rw [if_pos (.inr d2)] at hq
     simp -dsimp only [Vm.E, zA, zB, zC, zD, zE, zG, zH, Tryz.results226]
     exact hq
   · have d2 : smallP (usedOf n) = true ∧ smallP n.limit = true := by simpa using c2
     rw [if_neg fun hc => hc.elim d1 fun hc => hc d2] at hq
     simp -dsimp only [Vm.E, zA, zB, zC, zD, zE, zG, zH]
     cases c3 : decide (more < 1)
     · have d3 : ¬ more < 1 := of_decide_eq_false c3
       simp -dsimp only [Vm.G, zA, zB, zC, zD, zE, zF, fo29_6, of3]
       cases c4 : decide (more ≤ IntKind.i64.wrap (n.limit - usedOf n))
       · have d4 := of_decide_eq_false c4
         rw [if_neg fun hc => hc.elim d3 d4] at hq
         simp -dsimp only [Vm.E, zA, zB, zC, zD, zE, zG, zH]
         refine draw_pub [2] (.take 0 (.take 1 (.take 2 (.take 3 (.take 4 (.take 5 (.alt 6 (.alt 7 (.done) .stop) .stop))))))) (by kernel_rfl) (by kernel_rfl) (by kernel_rfl) (by decide) ?_
         simp -dsimp only [Vm.G, zA, zB, zC, zD, zE, zF, fo29_5, of4, Tryz.results226]
         exact hq
       · have d4 := of_decide_eq_true c4
         rw [if_pos (.inr d4)] at hq
         simp -dsimp only [Vm.E, zA, zB, zC, zD, zE, zG, zH, Tryz.results226]
         exact hq
     · have d3 := of_decide_eq_true c3
       rw [if_pos (.inl d3)] at hq
       simp -dsimp only [Vm.E, zA, zB, zC, zD, zE, zG, zH, Tryz.results226]
       exact hq
 · have d1 := of_decide_eq_true c1
   rw [if_pos (.inl d1)] at hq
   simp -dsimp only [Vm.E, zA, zB, zC, zD, zE, zG, zH, Tryz.results226]
   exact hq
structure Chg where
 pre : Int
 enc : Int
 exp : Int
def chgCells (c : Chg) : List AV := [.v (.int .i64 c.pre), .v (.int .i64 c.enc), .v (.int .i64 c.exp)]
def chgRight (c : Chg) : Bool := withinP c.pre && withinP c.enc && withinP c.exp
def chgRightSpec : Vm.Spec := fun args h Q => ∃ c, args = [.agg (chgCells c)] ∧ Q (.v (.bool (chgRight c))) h
theorem does_chgRight : Does Tryz.prog 173 chgRightSpec := by
 refine dA (good_cons does_all good_nil) Tryz.func173 rfl (by decide +kernel) ?_
 rintro args h Q ⟨c, rfl, hq⟩
 refine ⟨by simp [Tryz.f173], ?_⟩
 simp -dsimp only [Vm.G, zA, zB, zC, zD, zE, zF, chgCells, fo217_0, fo217_1, fo217_2, of3, es120]
 refine bs_intro zr3 (by decide) (by decide) rfl rfl (by simp [solid, AV.cells]) ?_
 simp -dsimp only [Vm.E, zA, zB, zC, zD, zE, zG, zH]
 refine call_one (S := allSpec) rfl _ GaL.rfl ⟨223, withinP, [c.pre, c.enc, c.exp], rfl, by simp, rfl, ?_⟩
 simp -dsimp only [Vm.E, zA, zB, zC, zD, zE, zG, zH, Tryz.results173]
 have e : [c.pre, c.enc, c.exp].all withinP = chgRight c := by simp [chgRight, Bool.and_assoc]
 rw [e]
 exact hq
def figs (n : Nd) : Bool := figureP n.pre && figureP n.enc && figureP n.exp
def addC (c : Chg) (n : Nd) : Nd := { n with pre := w64 (n.pre + c.pre), enc := w64 (n.enc + c.enc), exp := w64 (n.exp + c.exp) }
def chgSum (c : Chg) : Int := w64 (w64 (c.pre + c.enc) + c.exp)
def atOf (c : Chg) (n : Nd) : Nd × Bool × Int :=
 if figs n = false then (.zero, false, 9)
 else if figs (addC c n) = false then (.zero, false, 9)
 else if (allowsOf n (chgSum c)).1 = false then (.zero, false, 11)
 else (addC c n, (allowsOf n (chgSum c)).2, 0)
def atSpec : Vm.Spec := fun args h Q => ∃ c n, args = [.agg (chgCells c), .agg (ndCells n)] ∧ Q (.tup [.agg (ndCells (atOf c n).1), .v (.bool (atOf c n).2.1), .v (.int .i64 (atOf c n).2.2)]) h
theorem does_at : Does Tryz.prog 174 atSpec := by
 refine dA (good_cons does_all (good_cons does_allows good_nil)) Tryz.func174 rfl (by decide +kernel) ?_
 rintro args h Q ⟨c, n, rfl, hq⟩
 refine ⟨by simp [Tryz.f174], ?_⟩
 unfold atOf at hq
 simp -dsimp only [Vm.G, zA, zB, zC, zD, zE, zF, ndCells, chgCells, al29, fo29_7, fo29_8, fo29_9, of3, es120]
 refine bs_intro zr3 (by decide) (by decide) rfl rfl (by simp [solid, AV.cells]) ?_
 simp -dsimp only [Vm.E, zA, zB, zC, zD, zE, zG, zH]
 refine call_one (S := allSpec) rfl _ GaL.rfl ⟨225, figureP, [n.pre, n.enc, n.exp], rfl, by simp, rfl, ?_⟩
 have e1 : [n.pre, n.enc, n.exp].all figureP = figs n := by simp [figs, Bool.and_assoc]
 simp only [e1]
 cases c1 : figs n
 · rw [if_pos c1] at hq
   simp -dsimp only [Vm.G, zA, zB, zC, zD, zE, zF, bd29, sz29, of29, Tryz.results174]
   exact hq
 · rw [if_neg (by rw [c1]; decide)] at hq
   simp -dsimp only [Vm.G, zA, zB, zC, zD, zE, zF, al29, of29, sz29, sz3, fo29_7, fo29_8, fo29_9, fo217_0, fo217_1, fo217_2, of3, es120]
   refine bs_intro zr3 (by decide) (by decide) rfl rfl (by simp [solid, AV.cells]) ?_
   simp -dsimp only [Vm.E, zA, zB, zC, zD, zE, zG, zH]
   refine call_one (S := allSpec) rfl _ GaL.rfl ⟨225, figureP, [(addC c n).pre, (addC c n).enc, (addC c n).exp], rfl, by simp, rfl, ?_⟩
   have e2 : [(addC c n).pre, (addC c n).enc, (addC c n).exp].all figureP = figs (addC c n) := by simp [figs, Bool.and_assoc]
   simp only [e2]
   cases c2 : figs (addC c n)
   · rw [if_pos c2] at hq
     simp -dsimp only [Vm.G, zA, zB, zC, zD, zE, zF, bd29, sz29, of29, Tryz.results174]
     exact hq
   · rw [if_neg (by rw [c2]; decide)] at hq
     simp -dsimp only [Vm.G, zA, zB, zC, zD, zE, zF, of29, fo217_0, fo217_1, fo217_2, of3]
     refine call_one (S := allowsSpec) rfl _ GaL.rfl ⟨n, chgSum c, rfl, ?_⟩
     simp -dsimp only [Vm.E, zA, zB, zC, zD, zE, zG, zH]
     cases c3 : (allowsOf n (chgSum c)).1
     · rw [if_pos c3] at hq
       simp -dsimp only [Vm.G, zA, zB, zC, zD, zE, zF, bd29, sz29, of29, Tryz.results174]
       exact hq
     · rw [if_neg (by rw [c3]; decide)] at hq
       simp -dsimp only [Vm.G, zA, zB, zC, zD, zE, zF, sz29, of29, Tryz.results174]
       exact hq
theorem w64_range (n : Int) : I64 (w64 n) := by
 unfold I64 w64 IntKind.wrap
 simp [IntKind.bits, IntKind.signed]
 omega
theorem numsPair_i64 {tag : UInt8} {k v : Nat} {key val : List UInt8} {l : List Int} (h : numsPair tag k v key val = some l) : ∀ n ∈ l, I64 n := by
 unfold numsPair at h
 split at h
 · rename_i t ks hs
   split at h
   · cases h
     intro n hn
     rcases List.mem_append.1 hn with hn | hn
     · unfold splitOf at hs
       split at hs
       · cases hs
       · split at hs
         · cases hs
           obtain ⟨i, -, rfl⟩ := zQa.1 hn
           exact num4_range _ _
         · cases hs
     · obtain ⟨i, -, rfl⟩ := zQa.1 hn
       exact num8_range _ _
   · cases h
 · cases h
theorem i64_getD {l : List Int} (h : ∀ n ∈ l, I64 n) (i : Nat) : I64 (l.getD i 0) := by
 rw [List.getD_eq_getElem?_getD]
 cases hi : l[i]? with
 | none => unfold I64; simp
 | some x => exact h x (List.mem_of_getElem? hi)
theorem nodeOf_ok {key val : List UInt8} {n : Nd} (h : nodeOf key val = some n) : n.ok := by
 unfold nodeOf at h
 cases hl : numsPair 78 2 10 key val with
 | none => rw [hl] at h; cases h
 | some l =>
   rw [hl] at h
   cases h
   have := numsPair_i64 hl
   exact ⟨i64_getD this 0, i64_getD this 1, i64_getD this 2, i64_getD this 3, i64_getD this 4, i64_getD this 6, i64_getD this 7, i64_getD this 8, i64_getD this 9, i64_getD this 10, i64_getD this 11⟩
theorem nodeAt_ok {f : Fun} {year id : Int} {n : Nd} (h : nodeAt f year id = some n) : n.ok := by
 unfold nodeAt at h
 split at h
 · cases h
 · split at h
   · rename_i m hm
     split at h
     · cases h; exact nodeOf_ok hm
     · cases h
   · cases h
theorem pathOf_ok (f : Fun) (year : Int) : ∀ (k : Nat) (id : Int), ∀ n ∈ pathOf f year k id, n.ok
 | 0, id, n, hn => by simp [pathOf] at hn
 | k + 1, id, n, hn => by
   simp only [pathOf] at hn
   split at hn
   · cases hn
   · rename_i m hm
     rcases zLb.1 hn with rfl | hn
     · exact nodeAt_ok hm
     · split at hn
       · cases hn
       · exact pathOf_ok f year k _ n hn
theorem pathOf_length (f : Fun) (year : Int) : ∀ (k : Nat) (id : Int), (pathOf f year k id).length ≤ k
 | 0, id => by simp [pathOf]
 | k + 1, id => by
   simp only [pathOf]
   split
   · simp
   · split
     · simp
     · have := pathOf_length f year k
       simp only [zKa]
       rename_i m hm hp
       have := this m.parent
       omega
theorem Nd.zero_ok : Nd.zero.ok := by simp [Nd.ok, Nd.zero, I64]
theorem addC_ok (c : Chg) (n : Nd) (h : n.ok) : (addC c n).ok := by
 obtain ⟨h1, h2, h3, h4, h5, h6, h7, h8, h9, h10, h11⟩ := h
 exact ⟨h1, h2, h3, h4, h5, h6, w64_range _, w64_range _, w64_range _, h10, h11⟩
theorem atOf_ok (c : Chg) (n : Nd) (h : n.ok) : (atOf c n).1.ok := by
 unfold atOf
 split
 · exact Nd.zero_ok
 · split
   · exact Nd.zero_ok
   · split
     · exact Nd.zero_ok
     · exact addC_ok c n h
def chargeRun (c : Chg) : List Nd → Fun → Bool → Fun × Bool × Int
 | [], f, w => (f, w, 0)
 | n :: r, f, w => if (atOf c n).2.2 ≠ 0 then (f, false, (atOf c n).2.2) else chargeRun c r (upd f (ndK (atOf c n).1) (some (ndV (atOf c n).1))) (w || (atOf c n).2.1)
def chargeOf (f : Fun) (year id : Int) (c : Chg) : Fun × Bool × Int :=
 if (pathOf f year 8 id).length = 0 then (f, false, 7)
 else if chgRight c = false then (f, false, 9)
 else chargeRun c (pathOf f year 8 id) f false
theorem Same.trans {h1 h2 h3 : Heap} {fp : List Nat} (a : Same h1 h2 fp) (b : Same h2 h3 fp) : Same h1 h3 fp :=
 ⟨Nat.le_trans a.1 b.1, fun i hi hn => (b.2 i (Nat.lt_of_lt_of_le hi a.1) hn).trans (a.2 i hi hn)⟩
def chargeSpec : Vm.Spec := fun args h Q => ∃ V f year id c, args = [.ptr V.iv 0, .v (.int .i64 year), .v (.int .i64 id), .v (.int .i64 c.pre), .v (.int .i64 c.enc), .v (.int .i64 c.exp)] ∧ isView h V f ∧
 ∀ h', isView h' V (chargeOf f year id c).1 → Same h h' [V.ic] → Q (.tup [.v (.bool (chargeOf f year id c).2.1), .v (.int .i64 (chargeOf f year id c).2.2)]) h'
theorem does_charge : Does Tryz.prog 105 chargeSpec := by
 refine dA (good_cons does_tpath (good_cons does_chgRight (good_cons does_at (good_cons does_tput good_nil)))) Tryz.func105 rfl (by decide +kernel) ?_
 rintro args h Q ⟨V, f, year, id, c, rfl, hV, hq⟩
 refine ⟨by simp [Tryz.f105], ?_⟩
 unfold chargeOf at hq
 simp -dsimp only [Vm.E, zA, zB, zC, zD, zE, zG, zH]
 refine call_one (S := tpathSpec) rfl _ GaL.rfl ⟨V, f, year, id, rfl, hV, ?_⟩
 have hok := pathOf_ok f year 8 id
 have hlen := pathOf_length f year 8 id
 generalize pathOf f year 8 id = path at hok hlen hq ⊢
 simp -dsimp only [Vm.E, zA, zB, zC, zD, zE, zG, zH, Tryz.underlying36]
 cases c1 : ((path.length : Int) == 0)
 · have d1 : ¬ path.length = 0 := by simp at c1; simpa using c1
   rw [if_neg d1] at hq
   simp -dsimp only [Vm.G, zA, zB, zC, zD, zE, zF, al217, bd217, sz217, of217]
   refine call_one (S := chgRightSpec) rfl _ GaL.rfl ⟨c, rfl, ?_⟩
   cases c2 : chgRight c
   · rw [if_pos c2] at hq
     simp -dsimp only [Vm.E, zA, zB, zC, zD, zE, zG, zH, Tryz.results105]
     exact hq h hV (.refl _ _)
   · rw [if_neg (by rw [c2]; decide)] at hq
     simp -dsimp only [Vm.E, zA, zB, zC, zD, zE, zG, zH, Tryz.underlying36]
     refine awp_loop (fun m s h' => ∃ (i : Nat) (f' : Fun) (w : Bool), i + m = path.length ∧ isView h' V f' ∧ Same h h' [V.ic] ∧ chargeRun c (path.drop i) f' w = chargeRun c path f false ∧
         s = mk [(0, .ptr V.iv 0), (14, .own true 29 12 (path.map ndAv)), (15, .box (chgCells c)), (16, .v (.bool w)), (37, .alias 14), (38, .v (.int .i64 path.length)), (39, .v (.int .i64 i))])
       path.length _ (le_mk _ ?_) ⟨0, f, false, by omega, hV, .refl _ _, rfl, rfl⟩ ?_
     · simp only [Vm.D]
       simp -dsimp only [Vm.E, zA, zB, zC, zD, zE, zG, zH]
       exact ⟨.refl _, .refl _, .refl _, .refl _, .refl _, .refl _, .refl _⟩
     · rintro m s h' ⟨i, f', w, hi, hV', hS, hr, rfl⟩
       simp -dsimp only [Vm.E, zA, zB, zC, zD, zE, zG, zH]
       refine cond_intro (fun hc => ?_) (fun hc => ?_)
       · have hlt : i < path.length := by have := of_decide_eq_true hc; omega
         have hn := hok path[i] (zTa hlt)
         have hgi : (path.map ndAv)[i]? = some (ndAv path[i]) := by rw [List.getElem?_map, zVb hlt]; rfl
         rw [List.drop_eq_getElem_cons hlt] at hr
         generalize path[i] = n at hn hgi hr
         simp only [chargeRun] at hr
         simp -dsimp only [Vm.E, zA, zB, zC, zD, zE, zG, zH, es36, as36]
         refine idxO_intro (xs := path.map ndAv) (by omega) (by simp; omega) ?_
         simp -dsimp only [Vm.E, zA, zB, zC, zD, zE, zG, zH, zJa]
         refine eltA_intro (xs := path.map ndAv) hgi ?_
         simp -dsimp only [Vm.G, zA, zB, zC, zD, zE, zF, ndAv, ndCells, chgCells, of29, al29, sz29, of217]
         refine call_one (S := atSpec) rfl _ GaL.rfl ⟨c, n, rfl, ?_⟩
         have hx := atOf_ok c n hn
         generalize hat : atOf c n = r at hx hr ⊢
         obtain ⟨x, warn, e⟩ := r
         simp -dsimp only [Vm.G, zA, zB, zC, zD, zE, zF, ndCells, al29, sz29]
         cases c3 : (e != 0)
         · have d3 : e = 0 := by simpa using c3
           subst d3
           simp only [ne_eq, not_true_eq_false, if_false] at hr
           simp -dsimp only [Vm.E, zA, zB, zC, zD, zE, zG, zH]
           cases w
           · simp -dsimp only [Vm.G, zA, zB, zC, zD, zE, zF, of29]
             refine call_one (S := tputSpec) rfl _ GaL.rfl ⟨V, f', x, rfl, hx, hV', fun h2 g1 g2 => ?_⟩
             have hw := hwN i (by omega)
             simp -dsimp only [Vm.E, zA, zB, zC, zD, zE, zG, zH, bne_self_eq_false]
             refine kept_intro ⟨path.length - (i + 1), by omega, _, le_mk [(0, .ptr V.iv 0), (14, .own true 29 12 (path.map ndAv)), (15, .box (chgCells c)), (16, .v (.bool warn)), (37, .alias 14), (38, .v (.int .i64 path.length)), (39, .v (.int .i64 (i + 1 : Nat)))] ?_,
               i + 1, _, warn, by omega, g1, hS.trans g2, by simpa using hr, rfl⟩
             simp only [Vm.D]
             simp -dsimp only [Vm.E, zA, zB, zC, zD, zE, zG, zH, hw]
             exact ⟨.refl _, .refl _, .refl _, .refl _, .refl _, .refl _, .refl _⟩
           · simp -dsimp only [Vm.G, zA, zB, zC, zD, zE, zF, of29]
             refine call_one (S := tputSpec) rfl _ GaL.rfl ⟨V, f', x, rfl, hx, hV', fun h2 g1 g2 => ?_⟩
             have hw := hwN i (by omega)
             simp -dsimp only [Vm.E, zA, zB, zC, zD, zE, zG, zH, bne_self_eq_false]
             refine kept_intro ⟨path.length - (i + 1), by omega, _, le_mk [(0, .ptr V.iv 0), (14, .own true 29 12 (path.map ndAv)), (15, .box (chgCells c)), (16, .v (.bool true)), (37, .alias 14), (38, .v (.int .i64 path.length)), (39, .v (.int .i64 (i + 1 : Nat)))] ?_,
               i + 1, _, true, by omega, g1, hS.trans g2, by simpa using hr, rfl⟩
             simp only [Vm.D]
             simp -dsimp only [Vm.E, zA, zB, zC, zD, zE, zG, zH, hw]
             exact ⟨.refl _, .refl _, .refl _, .refl _, .refl _, .refl _, .refl _⟩
         · have d3 : e ≠ 0 := by simpa using c3
           have hr : (f', false, e) = chargeRun c path f false := by simpa [d3] using hr
           rw [← hr] at hq
           simp -dsimp only [Vm.E, zA, zB, zC, zD, zE, zG, zH, Tryz.results105]
           exact hq h' hV' hS
       · have hge : ¬ i < path.length := by have := of_decide_eq_false hc; omega
         rw [List.drop_of_length_le (by omega)] at hr
         have hr : (f', w, 0) = chargeRun c path f false := hr
         rw [← hr] at hq
         simp -dsimp only [Vm.E, zA, zB, zC, zD, zE, zG, zH, Tryz.results105]
         exact hq h' hV' hS
 · have d1 : path.length = 0 := by simp at c1; simpa using c1
   rw [if_pos d1] at hq
   simp -dsimp only [Vm.E, zA, zB, zC, zD, zE, zG, zH, Tryz.results105]
   exact hq h hV (.refl _ _)
end Go.Proofs.Lx
namespace Go.Proofs.Lx
open Go.Vm
attribute [local irreducible] awpArr awpBin awpMake awpAppend awpCvX awpStrOf awpBinX awpSlice awpBS awpStore awpAlloc awpCopy awpIndex awpDraw awpIdxX awpFa awpField awpLookup awpUpdate awpDelete awpClear awpRange awpNext awpEntry awpBuild awpClearS awpIdxL
theorem row_elem {sz : Nat} {xs cs : List AV} (hu : ∀ x ∈ xs, x.cells.length = sz) (hc : cs.take (xs.length * sz) = flat xs) (i : Nat) (hi : i < xs.length) :
   (cs.drop (i * sz)).take sz = xs[i].cells ∧ sz ≤ (cs.drop (i * sz)).length := by
 have hfl := flat_length hu
 have hlen : xs.length * sz ≤ cs.length := by
   have : (cs.take (xs.length * sz)).length = xs.length * sz := by rw [hc, hfl]
   rw [zOa] at this; omega
 have hb : i * sz + sz ≤ xs.length * sz := by
   have : (i + 1) * sz ≤ xs.length * sz := Nat.mul_le_mul_right _ (by omega)
   rw [Nat.add_mul] at this; omega
 have h2 : sz ≤ (cs.drop (i * sz)).length := by rw [List.length_drop]; omega
 refine ⟨?_, h2⟩
 apply List.ext_getElem?
 intro j
 rw [List.getElem?_take]
 split
 · rename_i hj
   rw [List.getElem?_drop]
   have e1 : cs[i * sz + j]? = (flat xs)[i * sz + j]? := by rw [← hc, List.getElem?_take, if_pos (by omega)]
   rw [e1, flat_get hu (zVb hi) j hj]
 · rw [zPb]
   have := hu xs[i] (zTa hi)
   omega
theorem heap_last (h : Heap) (r : AObj) : (h ++ [r])[h.length]? = some r := by rw [zJb (zRa _)]; simp
theorem heap_setLast (h : Heap) (r r' : AObj) : (h ++ [r]).set h.length r' = h ++ [r'] := by rw [List.set_append_right _ _ (zRa _)]; simp
def isPr (x : AV) : Prop := ∃ a b, x = .agg [a, b] ∧ solid a = true ∧ solid b = true
theorem isPr.cells {x : AV} (h : isPr x) : x.cells.length = 2 := by obtain ⟨a, b, rfl, -⟩ := h; rfl
def ixOf (p : AV → Bool) (xs : List AV) : Int := match xs.findIdx? p with | some i => i | none => -1
def ixPSpec (T : Tab) : Vm.Spec := fun args h Q => ∃ (g : FuncId) (caps : List AV) (S : Vm.Spec) (p : AV → Bool) (xs : List AV) (id c e m : Nat) (cs : List AV), T g = some S ∧ args = [.osl id 0 xs.length c, .clo g caps] ∧ h[id]? = some (.row e m cs) ∧
 cs.take (xs.length * 2) = flat xs ∧ (∀ x ∈ xs, isPr x) ∧ xs.length ≤ 4611686018427387904 ∧ (∀ x ∈ xs, ∀ Q' : AV → Heap → Prop, Q' (.v (.bool (p x))) h → S (x :: caps) h Q') ∧ Q (.v (.int .i64 (ixOf p xs))) h
theorem ixOf_none {p : AV → Bool} {xs : List AV} (h : ∀ x ∈ xs, p x = false) : ixOf p xs = -1 := by
 have : xs.findIdx? p = none := List.findIdx?_eq_none_iff.2 h
 simp [ixOf, this]
theorem ixOf_some {p : AV → Bool} {xs : List AV} {i : Nat} (hi : i < xs.length) (h1 : p xs[i] = true) (h2 : ∀ j (hj : j < i), p (xs[j]'(by omega)) = false) : ixOf p xs = i := by
 have : xs.findIdx? p = some i := by
   rw [zQb]
   exact ⟨hi, h1, fun j hj => by simp [h2 j hj]⟩
 simp [ixOf, this]
theorem does_ixP {T : Tab} (hT : Good T) : Does Tryz.prog 193 (ixPSpec T) := by
 refine dA hT Tryz.func193 rfl (by decide +kernel) ?_
 rintro args h Q ⟨g, caps, S, p, xs, id, c, e, m, cs, hg, rfl, hh, hc, hu, hl, hS, hq⟩
 refine ⟨by simp [Tryz.f193], ?_⟩
 have hu2 : ∀ x ∈ xs, x.cells.length = 2 := fun x hx => (hu x hx).cells
 simp -dsimp only [Vm.E, zA, zB, zC, zD, zE, zG, zH, Tryz.underlying60]
 refine awp_loop (fun m' s h' => ∃ i : Nat, i + m' = xs.length ∧ h' = h ∧ (∀ j (hj : j < i) (hj2 : j < xs.length), p xs[j] = false) ∧ s = mk [(0, .osl id 0 xs.length c), (1, .clo g caps), (7, .v (.int .i64 xs.length)), (8, .v (.int .i64 i))])
   xs.length _ (le_mk _ ?_) ⟨0, by omega, rfl, fun j hj => by omega, rfl⟩ ?_
 · simp only [Vm.D]
   simp -dsimp only [Vm.E, zA, zB, zC, zD, zE, zG, zH]
   exact ⟨.refl _, .refl _, .refl _, .refl _⟩
 · rintro m' s h' ⟨i, hi, rfl, hp, rfl⟩
   simp -dsimp only [Vm.E, zA, zB, zC, zD, zE, zG, zH]
   refine cond_intro (fun hcc => ?_) (fun hcc => ?_)
   · have hlt : i < xs.length := by have := of_decide_eq_true hcc; omega
     obtain ⟨r1, r2⟩ := row_elem hu2 hc i hlt
     obtain ⟨a, b, hx, hsa, hsb⟩ := hu xs[i] (zTa hlt)
     have hmem := zTa hlt
     have r1' : (cs.drop (i * 2)).take 2 = [a, b] := by rw [r1, hx]; rfl
     simp -dsimp only [Vm.E, zA, zB, zC, zD, zE, zG, zH, es60, as60]
     refine idxL_intro (by omega) (by omega) ?_
     simp -dsimp only [Vm.E, zA, zB, zC, zD, zE, zG, zH, hh, of132, zJa, r1', r2]
     refine call_one (S := S) hg _ GaL.rfl ?_
     rw [hx] at hmem
     refine hS _ hmem _ ?_
     cases hpi : p (.agg [a, b])
     · simp -dsimp only [Vm.E, zA, zB, zC, zD, zE, zG, zH]
       have hw := hwN i (by omega)
       refine kept_intro ⟨xs.length - (i + 1), by omega, _, le_mk [(0, .osl id 0 xs.length c), (1, .clo g caps), (7, .v (.int .i64 xs.length)), (8, .v (.int .i64 (i + 1 : Nat)))] ?_, i + 1, by omega, rfl, fun j hj hj2 => ?_, rfl⟩
       · simp only [Vm.D]
         simp -dsimp only [Vm.E, zA, zB, zC, zD, zE, zG, zH, hw]
         exact ⟨.refl _, .refl _, .refl _, .refl _⟩
       · by_cases hji : j = i
         · subst hji; rw [hx]; exact hpi
         · exact hp j (by omega) hj2
     · simp -dsimp only [Vm.E, zA, zB, zC, zD, zE, zG, zH, Tryz.results193]
       rw [ixOf_some hlt (by rw [hx]; exact hpi) fun j hj => hp j hj (by omega)] at hq
       exact hq
   · have hge : ¬ i < xs.length := by have := of_decide_eq_false hcc; omega
     simp -dsimp only [Vm.E, zA, zB, zC, zD, zE, zG, zH, Tryz.results193]
     rw [ixOf_none fun x hx => by
       obtain ⟨j, hj, rfl⟩ := List.getElem_of_mem hx
       exact hp j (by omega) hj] at hq
     exact hq
def ixPNilSpec : Vm.Spec := fun args h Q => ∃ g caps, args = [.v (.slice none 0 0), .clo g caps] ∧ Q (.v (.int .i64 (-1))) h
theorem does_ixPNil : Does Tryz.prog 193 ixPNilSpec := by
 refine dA good_nil Tryz.func193 rfl (by decide +kernel) ?_
 rintro args h Q ⟨g, caps, rfl, hq⟩
 refine ⟨by simp [Tryz.f193], ?_⟩
 simp -dsimp only [Vm.E, zA, zB, zC, zD, zE, zG, zH, Tryz.underlying60]
 refine awp_loop (fun m' s h' => h' = h ∧ s = mk [(7, .v (.int .i64 0)), (8, .v (.int .i64 0))]) 0 _ (le_mk _ ?_) ⟨rfl, rfl⟩ ?_
 · simp only [Vm.D]
   simp -dsimp only [Vm.E, zA, zB, zC, zD, zE, zG, zH]
   exact ⟨.refl _, .refl _⟩
 · rintro m' s h' ⟨rfl, rfl⟩
   simp -dsimp only [Vm.E, zA, zB, zC, zD, zE, zG, zH]
   refine cond_intro (fun hcc => ?_) (fun hcc => ?_)
   · have := of_decide_eq_true hcc
     omega
   · simp -dsimp only [Vm.E, zA, zB, zC, zD, zE, zG, zH, Tryz.results193]
     exact hq
theorem drop_put {cs xs : List AV} {o k : Nat} (h1 : o + xs.length ≤ k) (h2 : o ≤ cs.length) : (putCells cs o xs).drop k = cs.drop k := by
 apply List.ext_getElem?
 intro j
 rw [List.getElem?_drop, List.getElem?_drop]
 have hl : (cs.take o).length = o := by rw [zOa]; omega
 simp only [putCells]
 rw [List.append_assoc, zJb (by omega), hl, zJb (by omega), List.getElem?_drop]
 congr 1; omega
abbrev stay (p : AV → Bool) (xs : List AV) : List AV := xs.filter fun x => !p x
def delPSpec (T : Tab) : Vm.Spec := fun args h Q => ∃ (g : FuncId) (caps : List AV) (S : Vm.Spec) (p : AV → Bool) (xs : List AV) (h0 : Heap) (c e : Nat), T g = some S ∧ args = [.osl h0.length 0 xs.length c, .clo g caps] ∧ h = h0 ++ [.row e (c * 2) (flat xs)] ∧
 xs.length ≤ c ∧ (∀ x ∈ xs, isPr x) ∧ xs.length ≤ 4611686018427387904 ∧ (∀ cs, ∀ x ∈ xs, ∀ Q' : AV → Heap → Prop, Q' (.v (.bool (p x))) (h0 ++ [.row e (c * 2) cs]) → S (x :: caps) (h0 ++ [.row e (c * 2) cs]) Q') ∧
 ∀ cs, cs.take ((stay p xs).length * 2) = flat (stay p xs) → Q (.osl h0.length 0 (stay p xs).length c) (h0 ++ [.row e (c * 2) cs])
theorem stay_all {p : AV → Bool} {xs : List AV} (h : ixOf p xs = -1) : stay p xs = xs := by
 have : xs.findIdx? p = none := by
   unfold ixOf at h
   cases hx : xs.findIdx? p with
   | none => rfl
   | some i => rw [hx] at h; simp at h
 rw [List.findIdx?_eq_none_iff] at this
 exact zXb.2 fun x hx => by simp [this x hx]
theorem take_flat {sz : Nat} {xs : List AV} (hu : ∀ x ∈ xs, x.cells.length = sz) (i : Nat) (hi : i ≤ xs.length) : (flat xs).take (i * sz) = flat (xs.take i) := (flat_take hu i hi).1.symm
def orS (A B : Vm.Spec) : Vm.Spec := fun args h Q => A args h Q ∨ B args h Q
theorem does_or {f : FuncId} {A B : Vm.Spec} (ha : Does Tryz.prog f A) (hb : Does Tryz.prog f B) : Does Tryz.prog f (orS A B) :=
 ⟨ha.1, fun args h Q hS => hS.elim (ha.2 args h Q) (hb.2 args h Q)⟩
theorem does_delP {T T2 : Tab} (hT : Good T) (hsub : ∀ g S, T2 g = some S → T g = some S) (hg0 : T 193 = some (orS (ixPSpec T2) ixPNilSpec)) : Does Tryz.prog 126 (delPSpec T2) := by
 refine dA hT Tryz.func126 rfl (by decide +kernel) ?_
 rintro args h Q ⟨g, caps, S, p, xs, h0, c, e, hg, rfl, rfl, hcl, hu, hl, hS, hq⟩
 refine ⟨by simp [Tryz.f126], ?_⟩
 have hu2 : ∀ x ∈ xs, x.cells.length = 2 := fun x hx => (hu x hx).cells
 have hfl := flat_length hu2
 simp -dsimp only [Vm.E, zA, zB, zC, zD, zE, zG, zH]
 refine call_one (S := orS (ixPSpec T2) ixPNilSpec) hg0 _ GaL.rfl (.inl ⟨g, caps, S, p, xs, h0.length, c, e, c * 2, flat xs, hg, rfl, heap_last _ _, by rw [zIa (by omega)], hu, hl, hS _, ?_⟩)
 cases c1 : (ixOf p xs == -1)
 · have d1 : ¬ ixOf p xs = -1 := by simpa using c1
   obtain ⟨ix, hix, hil, hpi, hpj⟩ : ∃ ix : Nat, ixOf p xs = ix ∧ ∃ hil : ix < xs.length, p (xs[ix]'hil) = true ∧ ∀ j (hj : j < ix), p (xs[j]'(by omega)) = false := by
     cases hx : xs.findIdx? p with
     | none => rw [ixOf, hx] at d1; exact absurd rfl d1
     | some i =>
       obtain ⟨h1, h2, h3⟩ := zQb.1 hx
       exact ⟨i, by rw [ixOf, hx], h1, h2, fun j hj => by simpa using h3 j hj⟩
   rw [hix]
   have c1' : (((ix : Nat) : Int) == -1) = false := by simp
   have hw0 := hwN ix (by omega)
   simp -dsimp only [Vm.E, zA, zB, zC, zD, zE, zG, zH, c1', hw0]
   have hfirst : stay p (xs.take (ix + 1)) = xs.take ix := by
     rw [stay, zPa hil, zRb, zYb, hpi]
     simp only [Bool.not_true, zYa, if_false, zWb, zXa]
     exact zXb.2 fun x hx => by
       obtain ⟨j, hj, rfl⟩ := List.getElem_of_mem hx
       rw [zOa] at hj
       rw [List.getElem_take, hpj j (by omega)]; rfl
   refine awp_loop (fun m' s h' => ∃ (j i : Nat) (cs : List AV), j + m' = xs.length ∧ i ≤ j ∧ i = (stay p (xs.take j)).length ∧ cs.length = xs.length * 2 ∧ cs.take (i * 2) = flat (stay p (xs.take j)) ∧ cs.drop (j * 2) = (flat xs).drop (j * 2) ∧
       h' = h0 ++ [.row e (c * 2) cs] ∧ s = mk [(0, .osl h0.length 0 xs.length c), (1, .clo g caps), (5, .v (.int .i64 i)), (6, .v (.int .i64 j))])
     (xs.length - (ix + 1)) _ (le_mk _ ?_) ⟨ix + 1, ix, flat xs, by omega, by omega, by rw [hfirst, zOa]; omega, hfl, by rw [hfirst]; exact take_flat hu2 ix (by omega), rfl, rfl, rfl⟩ ?_
   · simp only [Vm.D]
     simp -dsimp only [Vm.E, zA, zB, zC, zD, zE, zG, zH]
     exact ⟨.refl _, .refl _, .refl _, .refl _⟩
   · rintro m' s h' ⟨j, i, cs, hj, hij, hil2, hcsl, hct, hcd, rfl, rfl⟩
     simp -dsimp only [Vm.E, zA, zB, zC, zD, zE, zG, zH, Tryz.underlying60]
     refine cond_intro (fun hcc => ?_) (fun hcc => ?_)
     · have hlt : j < xs.length := by have := of_decide_eq_true hcc; omega
       obtain ⟨a, b, hx, hsa, hsb⟩ := hu xs[j] (zTa hlt)
       have hmem := zTa hlt
       rw [hx] at hmem
       have hw := hwN j (by omega)
       have hw2 := hwN i (by omega)
       have r1 : (cs.drop (j * 2)).take 2 = [a, b] := by
         rw [hcd, (row_elem hu2 (cs := flat xs) (by rw [zIa (by omega)]) j hlt).1, hx]; rfl
       have r2 : 2 ≤ (cs.drop (j * 2)).length := by rw [List.length_drop]; omega
       have hst : stay p (xs.take (j + 1)) = stay p (xs.take j) ++ if p (.agg [a, b]) = true then [] else [.agg [a, b]] := by
         rw [stay, zPa hlt, zRb, zYb, zWb, hx]
         cases p (.agg [a, b]) <;> simp
       have hnext : cs.drop ((j + 1) * 2) = (flat xs).drop ((j + 1) * 2) := by
         have := congrArg (List.drop 2) hcd
         rw [List.drop_drop, List.drop_drop] at this
         rw [show (j + 1) * 2 = j * 2 + 2 by omega]; exact this
       simp -dsimp only [Vm.E, zA, zB, zC, zD, zE, zG, zH, es60, as60]
       refine idxL_intro (by omega) (by omega) ?_
       simp -dsimp only [Vm.G, zA, zB, zC, zD, zE, zF, heap_last, of132, zJa, r1, r2, al132, sz132]
       refine call_one (S := S) (hsub _ _ hg) _ GaL.rfl (hS cs _ hmem _ ?_)
       cases hpi2 : p (.agg [a, b])
       · rw [hpi2] at hst
         simp -dsimp only [Vm.G, zA, zB, zC, zD, zE, zF, of132, es60, as60]
         refine idxL_intro (by omega) (by omega) ?_
         simp -dsimp only [Vm.E, zA, zB, zC, zD, zE, zG, zH, sz132, zJa]
         refine store_row cs (heap_last _ _) rfl rfl (by omega) ?_
         simp -dsimp only [Vm.E, zA, zB, zC, zD, zE, zG, zH, heap_setLast, hw, hw2]
         have hst' : stay p (xs.take (j + 1)) = stay p (xs.take j) ++ [.agg [a, b]] := by simpa using hst
         have hpl : (putCells cs (i * 2) [a, b]).length = cs.length := by simp [putCells]; omega
         refine kept_intro ⟨xs.length - (j + 1), by omega, _, le_mk [(0, .osl h0.length 0 xs.length c), (1, .clo g caps), (5, .v (.int .i64 (i + 1 : Nat))), (6, .v (.int .i64 (j + 1 : Nat)))] ?_,
           j + 1, i + 1, putCells cs (i * 2) [a, b], by omega, by omega, by rw [hst', zNa]; simp; omega, by rw [hpl]; exact hcsl, ?_, ?_, rfl, rfl⟩
         · simp only [Vm.D]
           simp -dsimp only [Vm.E, zA, zB, zC, zD, zE, zG, zH]
           exact ⟨.refl _, .refl _, .refl _, .refl _⟩
         · rw [hst', flat_append, ← hct]
           simp only [putCells]
           rw [show (i + 1) * 2 = (cs.take (i * 2) ++ [a, b]).length by simp [zOa]; omega, List.take_left']
           · simp [flat, AV.cells]
           · rfl
         · rw [← hnext]
           exact drop_put (by simp only [zKa, zMa]; omega) (by omega)
       · rw [hpi2] at hst
         have hst' : stay p (xs.take (j + 1)) = stay p (xs.take j) := by simpa using hst
         simp -dsimp only [Vm.E, zA, zB, zC, zD, zE, zG, zH, hw]
         refine kept_intro ⟨xs.length - (j + 1), by omega, _, le_mk [(0, .osl h0.length 0 xs.length c), (1, .clo g caps), (5, .v (.int .i64 i)), (6, .v (.int .i64 (j + 1 : Nat)))] ?_,
           j + 1, i, cs, by omega, by omega, by rw [hst']; exact hil2, hcsl, by rw [hst']; exact hct, hnext, rfl, rfl⟩
         simp only [Vm.D]
         simp -dsimp only [Vm.E, zA, zB, zC, zD, zE, zG, zH]
         exact ⟨.refl _, .refl _, .refl _, .refl _⟩
     · have hge : ¬ j < xs.length := by have := of_decide_eq_false hcc; omega
       have hjx : j = xs.length := by omega
       rw [hjx, List.take_length] at hil2 hct
       have hfin : ∀ cs', cs'.take (i * 2) = cs.take (i * 2) → Q (.osl h0.length 0 i c) (h0 ++ [.row e (c * 2) cs']) := fun cs' hcs' => by
         have := hq cs' (by rw [← hil2, hcs', hct])
         rw [← hil2] at this; exact this
       have hzc : plain (.agg #[.slice none 0 0, .slice none 0 0]) = true ∨ ∃ zs, Value.agg #[.slice none 0 0, .slice none 0 0] = .agg zs ∧ zs.all plain = true := .inr ⟨_, rfl, by simp [plain]⟩
       simp -dsimp only [Vm.E, zA, zB, zC, zD, zE, zG, zH]
       refine sliceO_intro es60 (l := i) (m := xs.length) rfl rfl (by omega) (by omega) (by omega) (fun hlc => ?_) (fun hlc => ?_)
       · simp -dsimp only [Vm.E, zA, zB, zC, zD, zE, zG, zH]
         refine clearS_intro cs Tryz.underlying60 z132 hzc (heap_last _ _) (by simp [Value.cells]; omega) ?_
         simp -dsimp only [Vm.E, zA, zB, zC, zD, zE, zG, zH, heap_setLast]
         refine sliceO_intro es60 (l := 0) (m := i) rfl rfl (by omega) (by omega) (by omega) (fun _ => ?_) (fun hlc => absurd (.inl rfl) hlc)
         simp -dsimp only [Vm.E, zA, zB, zC, zD, zE, zG, zH, Tryz.results126]
         have := hfin (putCells cs ((i : Int).toNat * 2) (zSa ((((xs.length : Nat) : Int).toNat - (i : Int).toNat) * 2) .any)) (by
           simp only [putCells, zJa]
           rw [List.append_assoc, List.take_append_of_le_length (by rw [zOa]; omega), List.take_take, Nat.min_self])
         simpa [Value.cells] using this
       · simp -dsimp only [Vm.E, zA, zB, zC, zD, zE, zG, zH]
         refine clearX_nil Tryz.underlying60 ?_
         simp -dsimp only [Vm.E, zA, zB, zC, zD, zE, zG, zH]
         refine sliceO_intro es60 (l := 0) (m := i) rfl rfl (by omega) (by omega) (by omega) (fun _ => ?_) (fun hlc => absurd (.inl rfl) hlc)
         simp -dsimp only [Vm.E, zA, zB, zC, zD, zE, zG, zH, Tryz.results126]
         have := hfin cs rfl
         simpa using this
 · have d1 : ixOf p xs = -1 := by simpa using c1
   have hst := stay_all d1
   rw [d1]
   have := hq (flat xs) (by rw [hst, zIa (by omega)])
   rw [hst] at this
   simp -dsimp only [Vm.E, zA, zB, zC, zD, zE, zG, zH, beq_self_eq_true, Tryz.results126]
   exact this
def delPNilSpec : Vm.Spec := fun args h Q => ∃ g caps, args = [.v (.slice none 0 0), .clo g caps] ∧ Q (.v (.slice none 0 0)) h
theorem does_delPNil {T T2 : Tab} (hT : Good T) (hg0 : T 193 = some (orS (ixPSpec T2) ixPNilSpec)) : Does Tryz.prog 126 delPNilSpec := by
 refine dA hT Tryz.func126 rfl (by decide +kernel) ?_
 rintro args h Q ⟨g, caps, rfl, hq⟩
 refine ⟨by simp [Tryz.f126], ?_⟩
 simp -dsimp only [Vm.E, zA, zB, zC, zD, zE, zG, zH]
 refine call_one (S := orS (ixPSpec T2) ixPNilSpec) hg0 _ GaL.rfl (.inr ⟨g, caps, rfl, ?_⟩)
 simp -dsimp only [Vm.E, zA, zB, zC, zD, zE, zG, zH, beq_self_eq_true, Tryz.results126]
 exact hq
def isNd (x : AV) : Prop := ∃ n : Nd, x = .agg [AV.v (.int .i64 n.year), AV.v (.int .i64 n.id), AV.v (.int .i64 n.parent), AV.v (.int .i64 n.fund), AV.v (.int .i64 n.obj), AV.v (.bool n.abs), AV.v (.int .i64 n.limit), AV.v (.int .i64 n.pre), AV.v (.int .i64 n.enc), AV.v (.int .i64 n.exp), AV.v (.int .i64 n.lapsed), AV.v (.int .i64 n.carried)]
theorem isNd.cells {x : AV} (h : isNd x) : x.cells.length = 12 := by obtain ⟨n, rfl⟩ := h; rfl
def ixPSpecNd (T : Tab) : Vm.Spec := fun args h Q => ∃ (g : FuncId) (caps : List AV) (S : Vm.Spec) (p : AV → Bool) (xs : List AV) (id c e m : Nat) (cs : List AV), T g = some S ∧ args = [.osl id 0 xs.length c, .clo g caps] ∧ h[id]? = some (.row e m cs) ∧
 cs.take (xs.length * 12) = flat xs ∧ (∀ x ∈ xs, isNd x) ∧ xs.length ≤ 4611686018427387904 ∧ (∀ x ∈ xs, ∀ Q' : AV → Heap → Prop, Q' (.v (.bool (p x))) h → S (x :: caps) h Q') ∧ Q (.v (.int .i64 (ixOf p xs))) h
theorem does_ixPNd {T : Tab} (hT : Good T) : Does Tryz.prog 120 (ixPSpecNd T) := by
 refine dA hT Tryz.func120 rfl (by decide +kernel) ?_
 rintro args h Q ⟨g, caps, S, p, xs, id, c, e, m, cs, hg, rfl, hh, hc, hu, hl, hS, hq⟩
 refine ⟨by simp [Tryz.f120], ?_⟩
 have hu2 : ∀ x ∈ xs, x.cells.length = 12 := fun x hx => (hu x hx).cells
 simp -dsimp only [Vm.E, zA, zB, zC, zD, zE, zG, zH, Tryz.underlying36]
 refine awp_loop (fun m' s h' => ∃ i : Nat, i + m' = xs.length ∧ h' = h ∧ (∀ j (hj : j < i) (hj2 : j < xs.length), p xs[j] = false) ∧ s = mk [(0, .osl id 0 xs.length c), (1, .clo g caps), (7, .v (.int .i64 xs.length)), (8, .v (.int .i64 i))])
   xs.length _ (le_mk _ ?_) ⟨0, by omega, rfl, fun j hj => by omega, rfl⟩ ?_
 · simp only [Vm.D]
   simp -dsimp only [Vm.E, zA, zB, zC, zD, zE, zG, zH]
   exact ⟨.refl _, .refl _, .refl _, .refl _⟩
 · rintro m' s h' ⟨i, hi, rfl, hp, rfl⟩
   simp -dsimp only [Vm.E, zA, zB, zC, zD, zE, zG, zH]
   refine cond_intro (fun hcc => ?_) (fun hcc => ?_)
   · have hlt : i < xs.length := by have := of_decide_eq_true hcc; omega
     obtain ⟨r1, r2⟩ := row_elem hu2 hc i hlt
     obtain ⟨n, hx⟩ := hu xs[i] (zTa hlt)
     have hmem := zTa hlt
     have r1' : (cs.drop (i * 12)).take 12 = [AV.v (.int .i64 n.year), AV.v (.int .i64 n.id), AV.v (.int .i64 n.parent), AV.v (.int .i64 n.fund), AV.v (.int .i64 n.obj), AV.v (.bool n.abs), AV.v (.int .i64 n.limit), AV.v (.int .i64 n.pre), AV.v (.int .i64 n.enc), AV.v (.int .i64 n.exp), AV.v (.int .i64 n.lapsed), AV.v (.int .i64 n.carried)] := by rw [r1, hx]; rfl
     simp -dsimp only [Vm.E, zA, zB, zC, zD, zE, zG, zH, es36, as36]
     refine idxL_intro (by omega) (by omega) ?_
     simp -dsimp only [Vm.E, zA, zB, zC, zD, zE, zG, zH, hh, of29, zJa, r1', r2]
     refine call_one (S := S) hg _ GaL.rfl ?_
     rw [hx] at hmem
     refine hS _ hmem _ ?_
     cases hpi : p (.agg [AV.v (.int .i64 n.year), AV.v (.int .i64 n.id), AV.v (.int .i64 n.parent), AV.v (.int .i64 n.fund), AV.v (.int .i64 n.obj), AV.v (.bool n.abs), AV.v (.int .i64 n.limit), AV.v (.int .i64 n.pre), AV.v (.int .i64 n.enc), AV.v (.int .i64 n.exp), AV.v (.int .i64 n.lapsed), AV.v (.int .i64 n.carried)])
     · simp -dsimp only [Vm.E, zA, zB, zC, zD, zE, zG, zH]
       have hw := hwN i (by omega)
       refine kept_intro ⟨xs.length - (i + 1), by omega, _, le_mk [(0, .osl id 0 xs.length c), (1, .clo g caps), (7, .v (.int .i64 xs.length)), (8, .v (.int .i64 (i + 1 : Nat)))] ?_, i + 1, by omega, rfl, fun j hj hj2 => ?_, rfl⟩
       · simp only [Vm.D]
         simp -dsimp only [Vm.E, zA, zB, zC, zD, zE, zG, zH, hw]
         exact ⟨.refl _, .refl _, .refl _, .refl _⟩
       · by_cases hji : j = i
         · subst hji; rw [hx]; exact hpi
         · exact hp j (by omega) hj2
     · simp -dsimp only [Vm.E, zA, zB, zC, zD, zE, zG, zH, Tryz.results120]
       rw [ixOf_some hlt (by rw [hx]; exact hpi) fun j hj => hp j hj (by omega)] at hq
       exact hq
   · have hge : ¬ i < xs.length := by have := of_decide_eq_false hcc; omega
     simp -dsimp only [Vm.E, zA, zB, zC, zD, zE, zG, zH, Tryz.results120]
     rw [ixOf_none fun x hx => by
       obtain ⟨j, hj, rfl⟩ := List.getElem_of_mem hx
       exact hp j (by omega) hj] at hq
     exact hq
def ixPNilSpecNd : Vm.Spec := fun args h Q => ∃ g caps, args = [.v (.slice none 0 0), .clo g caps] ∧ Q (.v (.int .i64 (-1))) h
theorem does_ixPNilNd : Does Tryz.prog 120 ixPNilSpecNd := by
 refine dA good_nil Tryz.func120 rfl (by decide +kernel) ?_
 rintro args h Q ⟨g, caps, rfl, hq⟩
 refine ⟨by simp [Tryz.f120], ?_⟩
 simp -dsimp only [Vm.E, zA, zB, zC, zD, zE, zG, zH, Tryz.underlying36]
 refine awp_loop (fun m' s h' => h' = h ∧ s = mk [(7, .v (.int .i64 0)), (8, .v (.int .i64 0))]) 0 _ (le_mk _ ?_) ⟨rfl, rfl⟩ ?_
 · simp only [Vm.D]
   simp -dsimp only [Vm.E, zA, zB, zC, zD, zE, zG, zH]
   exact ⟨.refl _, .refl _⟩
 · rintro m' s h' ⟨rfl, rfl⟩
   simp -dsimp only [Vm.E, zA, zB, zC, zD, zE, zG, zH]
   refine cond_intro (fun hcc => ?_) (fun hcc => ?_)
   · have := of_decide_eq_true hcc
     omega
   · simp -dsimp only [Vm.E, zA, zB, zC, zD, zE, zG, zH, Tryz.results120]
     exact hq
def delPSpecNd (T : Tab) : Vm.Spec := fun args h Q => ∃ (g : FuncId) (caps : List AV) (S : Vm.Spec) (p : AV → Bool) (xs : List AV) (h0 : Heap) (c e : Nat), T g = some S ∧ args = [.osl h0.length 0 xs.length c, .clo g caps] ∧ h = h0 ++ [.row e (c * 12) (flat xs)] ∧
 xs.length ≤ c ∧ (∀ x ∈ xs, isNd x) ∧ xs.length ≤ 4611686018427387904 ∧ (∀ cs, ∀ x ∈ xs, ∀ Q' : AV → Heap → Prop, Q' (.v (.bool (p x))) (h0 ++ [.row e (c * 12) cs]) → S (x :: caps) (h0 ++ [.row e (c * 12) cs]) Q') ∧
 ∀ cs, cs.take ((stay p xs).length * 12) = flat (stay p xs) → Q (.osl h0.length 0 (stay p xs).length c) (h0 ++ [.row e (c * 12) cs])
theorem does_delPNd {T T2 : Tab} (hT : Good T) (hsub : ∀ g S, T2 g = some S → T g = some S) (hg0 : T 120 = some (orS (ixPSpecNd T2) ixPNilSpecNd)) : Does Tryz.prog 45 (delPSpecNd T2) := by
 refine dA hT Tryz.func45 rfl (by decide +kernel) ?_
 rintro args h Q ⟨g, caps, S, p, xs, h0, c, e, hg, rfl, rfl, hcl, hu, hl, hS, hq⟩
 refine ⟨by simp [Tryz.f45], ?_⟩
 have hu2 : ∀ x ∈ xs, x.cells.length = 12 := fun x hx => (hu x hx).cells
 have hfl := flat_length hu2
 simp -dsimp only [Vm.E, zA, zB, zC, zD, zE, zG, zH]
 refine call_one (S := orS (ixPSpecNd T2) ixPNilSpecNd) hg0 _ GaL.rfl (.inl ⟨g, caps, S, p, xs, h0.length, c, e, c * 12, flat xs, hg, rfl, heap_last _ _, by rw [zIa (by omega)], hu, hl, hS _, ?_⟩)
 cases c1 : (ixOf p xs == -1)
 · have d1 : ¬ ixOf p xs = -1 := by simpa using c1
   obtain ⟨ix, hix, hil, hpi, hpj⟩ : ∃ ix : Nat, ixOf p xs = ix ∧ ∃ hil : ix < xs.length, p (xs[ix]'hil) = true ∧ ∀ j (hj : j < ix), p (xs[j]'(by omega)) = false := by
     cases hx : xs.findIdx? p with
     | none => rw [ixOf, hx] at d1; exact absurd rfl d1
     | some i =>
       obtain ⟨h1, h2, h3⟩ := zQb.1 hx
       exact ⟨i, by rw [ixOf, hx], h1, h2, fun j hj => by simpa using h3 j hj⟩
   rw [hix]
   have c1' : (((ix : Nat) : Int) == -1) = false := by simp
   have hw0 := hwN ix (by omega)
   simp -dsimp only [Vm.E, zA, zB, zC, zD, zE, zG, zH, c1', hw0]
   have hfirst : stay p (xs.take (ix + 1)) = xs.take ix := by
     rw [stay, zPa hil, zRb, zYb, hpi]
     simp only [Bool.not_true, zYa, if_false, zWb, zXa]
     exact zXb.2 fun x hx => by
       obtain ⟨j, hj, rfl⟩ := List.getElem_of_mem hx
       rw [zOa] at hj
       rw [List.getElem_take, hpj j (by omega)]; rfl
   refine awp_loop (fun m' s h' => ∃ (j i : Nat) (cs : List AV), j + m' = xs.length ∧ i ≤ j ∧ i = (stay p (xs.take j)).length ∧ cs.length = xs.length * 12 ∧ cs.take (i * 12) = flat (stay p (xs.take j)) ∧ cs.drop (j * 12) = (flat xs).drop (j * 12) ∧
       h' = h0 ++ [.row e (c * 12) cs] ∧ s = mk [(0, .osl h0.length 0 xs.length c), (1, .clo g caps), (5, .v (.int .i64 i)), (6, .v (.int .i64 j))])
     (xs.length - (ix + 1)) _ (le_mk _ ?_) ⟨ix + 1, ix, flat xs, by omega, by omega, by rw [hfirst, zOa]; omega, hfl, by rw [hfirst]; exact take_flat hu2 ix (by omega), rfl, rfl, rfl⟩ ?_
   · simp only [Vm.D]
     simp -dsimp only [Vm.E, zA, zB, zC, zD, zE, zG, zH]
     exact ⟨.refl _, .refl _, .refl _, .refl _⟩
   · rintro m' s h' ⟨j, i, cs, hj, hij, hil2, hcsl, hct, hcd, rfl, rfl⟩
     simp -dsimp only [Vm.E, zA, zB, zC, zD, zE, zG, zH, Tryz.underlying36]
     refine cond_intro (fun hcc => ?_) (fun hcc => ?_)
     · have hlt : j < xs.length := by have := of_decide_eq_true hcc; omega
       obtain ⟨n, hx⟩ := hu xs[j] (zTa hlt)
       have hmem := zTa hlt
       rw [hx] at hmem
       have hw := hwN j (by omega)
       have hw2 := hwN i (by omega)
       have r1 : (cs.drop (j * 12)).take 12 = [AV.v (.int .i64 n.year), AV.v (.int .i64 n.id), AV.v (.int .i64 n.parent), AV.v (.int .i64 n.fund), AV.v (.int .i64 n.obj), AV.v (.bool n.abs), AV.v (.int .i64 n.limit), AV.v (.int .i64 n.pre), AV.v (.int .i64 n.enc), AV.v (.int .i64 n.exp), AV.v (.int .i64 n.lapsed), AV.v (.int .i64 n.carried)] := by
         rw [hcd, (row_elem hu2 (cs := flat xs) (by rw [zIa (by omega)]) j hlt).1, hx]; rfl
       have r2 : 12 ≤ (cs.drop (j * 12)).length := by rw [List.length_drop]; omega
       have hst : stay p (xs.take (j + 1)) = stay p (xs.take j) ++ if p (.agg [AV.v (.int .i64 n.year), AV.v (.int .i64 n.id), AV.v (.int .i64 n.parent), AV.v (.int .i64 n.fund), AV.v (.int .i64 n.obj), AV.v (.bool n.abs), AV.v (.int .i64 n.limit), AV.v (.int .i64 n.pre), AV.v (.int .i64 n.enc), AV.v (.int .i64 n.exp), AV.v (.int .i64 n.lapsed), AV.v (.int .i64 n.carried)]) = true then [] else [.agg [AV.v (.int .i64 n.year), AV.v (.int .i64 n.id), AV.v (.int .i64 n.parent), AV.v (.int .i64 n.fund), AV.v (.int .i64 n.obj), AV.v (.bool n.abs), AV.v (.int .i64 n.limit), AV.v (.int .i64 n.pre), AV.v (.int .i64 n.enc), AV.v (.int .i64 n.exp), AV.v (.int .i64 n.lapsed), AV.v (.int .i64 n.carried)]] := by
         rw [stay, zPa hlt, zRb, zYb, zWb, hx]
         cases p (.agg [AV.v (.int .i64 n.year), AV.v (.int .i64 n.id), AV.v (.int .i64 n.parent), AV.v (.int .i64 n.fund), AV.v (.int .i64 n.obj), AV.v (.bool n.abs), AV.v (.int .i64 n.limit), AV.v (.int .i64 n.pre), AV.v (.int .i64 n.enc), AV.v (.int .i64 n.exp), AV.v (.int .i64 n.lapsed), AV.v (.int .i64 n.carried)]) <;> simp
       have hnext : cs.drop ((j + 1) * 12) = (flat xs).drop ((j + 1) * 12) := by
         have := congrArg (List.drop 12) hcd
         rw [List.drop_drop, List.drop_drop] at this
         rw [show (j + 1) * 12 = j * 12 + 12 by omega]; exact this
       simp -dsimp only [Vm.E, zA, zB, zC, zD, zE, zG, zH, es36, as36]
       refine idxL_intro (by omega) (by omega) ?_
       simp -dsimp only [Vm.G, zA, zB, zC, zD, zE, zF, heap_last, of29, zJa, r1, r2, al29, sz29]
       refine call_one (S := S) (hsub _ _ hg) _ GaL.rfl (hS cs _ hmem _ ?_)
       cases hpi2 : p (.agg [AV.v (.int .i64 n.year), AV.v (.int .i64 n.id), AV.v (.int .i64 n.parent), AV.v (.int .i64 n.fund), AV.v (.int .i64 n.obj), AV.v (.bool n.abs), AV.v (.int .i64 n.limit), AV.v (.int .i64 n.pre), AV.v (.int .i64 n.enc), AV.v (.int .i64 n.exp), AV.v (.int .i64 n.lapsed), AV.v (.int .i64 n.carried)])
       · rw [hpi2] at hst
         simp -dsimp only [Vm.G, zA, zB, zC, zD, zE, zF, of29, es36, as36]
         refine idxL_intro (by omega) (by omega) ?_
         simp -dsimp only [Vm.E, zA, zB, zC, zD, zE, zG, zH, sz29, zJa]
         refine store_row cs (heap_last _ _) rfl rfl (by omega) ?_
         simp -dsimp only [Vm.E, zA, zB, zC, zD, zE, zG, zH, heap_setLast, hw, hw2]
         have hst' : stay p (xs.take (j + 1)) = stay p (xs.take j) ++ [.agg [AV.v (.int .i64 n.year), AV.v (.int .i64 n.id), AV.v (.int .i64 n.parent), AV.v (.int .i64 n.fund), AV.v (.int .i64 n.obj), AV.v (.bool n.abs), AV.v (.int .i64 n.limit), AV.v (.int .i64 n.pre), AV.v (.int .i64 n.enc), AV.v (.int .i64 n.exp), AV.v (.int .i64 n.lapsed), AV.v (.int .i64 n.carried)]] := by simpa using hst
         have hpl : (putCells cs (i * 12) [AV.v (.int .i64 n.year), AV.v (.int .i64 n.id), AV.v (.int .i64 n.parent), AV.v (.int .i64 n.fund), AV.v (.int .i64 n.obj), AV.v (.bool n.abs), AV.v (.int .i64 n.limit), AV.v (.int .i64 n.pre), AV.v (.int .i64 n.enc), AV.v (.int .i64 n.exp), AV.v (.int .i64 n.lapsed), AV.v (.int .i64 n.carried)]).length = cs.length := by simp [putCells]; omega
         refine kept_intro ⟨xs.length - (j + 1), by omega, _, le_mk [(0, .osl h0.length 0 xs.length c), (1, .clo g caps), (5, .v (.int .i64 (i + 1 : Nat))), (6, .v (.int .i64 (j + 1 : Nat)))] ?_,
           j + 1, i + 1, putCells cs (i * 12) [AV.v (.int .i64 n.year), AV.v (.int .i64 n.id), AV.v (.int .i64 n.parent), AV.v (.int .i64 n.fund), AV.v (.int .i64 n.obj), AV.v (.bool n.abs), AV.v (.int .i64 n.limit), AV.v (.int .i64 n.pre), AV.v (.int .i64 n.enc), AV.v (.int .i64 n.exp), AV.v (.int .i64 n.lapsed), AV.v (.int .i64 n.carried)], by omega, by omega, by rw [hst', zNa]; simp; omega, by rw [hpl]; exact hcsl, ?_, ?_, rfl, rfl⟩
         · simp only [Vm.D]
           simp -dsimp only [Vm.E, zA, zB, zC, zD, zE, zG, zH]
           exact ⟨.refl _, .refl _, .refl _, .refl _⟩
         · rw [hst', flat_append, ← hct]
           simp only [putCells]
           rw [show (i + 1) * 12 = (cs.take (i * 12) ++ [AV.v (.int .i64 n.year), AV.v (.int .i64 n.id), AV.v (.int .i64 n.parent), AV.v (.int .i64 n.fund), AV.v (.int .i64 n.obj), AV.v (.bool n.abs), AV.v (.int .i64 n.limit), AV.v (.int .i64 n.pre), AV.v (.int .i64 n.enc), AV.v (.int .i64 n.exp), AV.v (.int .i64 n.lapsed), AV.v (.int .i64 n.carried)]).length by simp [zOa]; omega, List.take_left']
           · simp [flat, AV.cells]
           · rfl
         · rw [← hnext]
           exact drop_put (by simp only [zKa, zMa]; omega) (by omega)
       · rw [hpi2] at hst
         have hst' : stay p (xs.take (j + 1)) = stay p (xs.take j) := by simpa using hst
         simp -dsimp only [Vm.E, zA, zB, zC, zD, zE, zG, zH, hw]
         refine kept_intro ⟨xs.length - (j + 1), by omega, _, le_mk [(0, .osl h0.length 0 xs.length c), (1, .clo g caps), (5, .v (.int .i64 i)), (6, .v (.int .i64 (j + 1 : Nat)))] ?_,
           j + 1, i, cs, by omega, by omega, by rw [hst']; exact hil2, hcsl, by rw [hst']; exact hct, hnext, rfl, rfl⟩
         simp only [Vm.D]
         simp -dsimp only [Vm.E, zA, zB, zC, zD, zE, zG, zH]
         exact ⟨.refl _, .refl _, .refl _, .refl _⟩
     · have hge : ¬ j < xs.length := by have := of_decide_eq_false hcc; omega
       have hjx : j = xs.length := by omega
       rw [hjx, List.take_length] at hil2 hct
       have hfin : ∀ cs', cs'.take (i * 12) = cs.take (i * 12) → Q (.osl h0.length 0 i c) (h0 ++ [.row e (c * 12) cs']) := fun cs' hcs' => by
         have := hq cs' (by rw [← hil2, hcs', hct])
         rw [← hil2] at this; exact this
       have hzc : plain (.agg #[.int .i64 0, .int .i64 0, .int .i64 0, .int .i64 0, .int .i64 0, .bool false, .int .i64 0, .int .i64 0, .int .i64 0, .int .i64 0, .int .i64 0, .int .i64 0]) = true ∨ ∃ zs, Value.agg #[.int .i64 0, .int .i64 0, .int .i64 0, .int .i64 0, .int .i64 0, .bool false, .int .i64 0, .int .i64 0, .int .i64 0, .int .i64 0, .int .i64 0, .int .i64 0] = .agg zs ∧ zs.all plain = true := .inr ⟨_, rfl, by simp [plain]⟩
       simp -dsimp only [Vm.E, zA, zB, zC, zD, zE, zG, zH]
       refine sliceO_intro es36 (l := i) (m := xs.length) rfl rfl (by omega) (by omega) (by omega) (fun hlc => ?_) (fun hlc => ?_)
       · simp -dsimp only [Vm.E, zA, zB, zC, zD, zE, zG, zH]
         refine clearS_intro cs Tryz.underlying36 z29 hzc (heap_last _ _) (by simp [Value.cells]; omega) ?_
         simp -dsimp only [Vm.E, zA, zB, zC, zD, zE, zG, zH, heap_setLast]
         refine sliceO_intro es36 (l := 0) (m := i) rfl rfl (by omega) (by omega) (by omega) (fun _ => ?_) (fun hlc => absurd (.inl rfl) hlc)
         simp -dsimp only [Vm.E, zA, zB, zC, zD, zE, zG, zH, Tryz.results45]
         have := hfin (putCells cs ((i : Int).toNat * 12) (zSa ((((xs.length : Nat) : Int).toNat - (i : Int).toNat) * 12) .any)) (by
           simp only [putCells, zJa]
           rw [List.append_assoc, List.take_append_of_le_length (by rw [zOa]; omega), List.take_take, Nat.min_self])
         simpa [Value.cells] using this
       · simp -dsimp only [Vm.E, zA, zB, zC, zD, zE, zG, zH]
         refine clearX_nil Tryz.underlying36 ?_
         simp -dsimp only [Vm.E, zA, zB, zC, zD, zE, zG, zH]
         refine sliceO_intro es36 (l := 0) (m := i) rfl rfl (by omega) (by omega) (by omega) (fun _ => ?_) (fun hlc => absurd (.inl rfl) hlc)
         simp -dsimp only [Vm.E, zA, zB, zC, zD, zE, zG, zH, Tryz.results45]
         have := hfin cs rfl
         simpa using this
 · have d1 : ixOf p xs = -1 := by simpa using c1
   have hst := stay_all d1
   rw [d1]
   have := hq (flat xs) (by rw [hst, zIa (by omega)])
   rw [hst] at this
   simp -dsimp only [Vm.E, zA, zB, zC, zD, zE, zG, zH, beq_self_eq_true, Tryz.results45]
   exact this
def delPNilSpecNd : Vm.Spec := fun args h Q => ∃ g caps, args = [.v (.slice none 0 0), .clo g caps] ∧ Q (.v (.slice none 0 0)) h
theorem does_delPNilNd {T T2 : Tab} (hT : Good T) (hg0 : T 120 = some (orS (ixPSpecNd T2) ixPNilSpecNd)) : Does Tryz.prog 45 delPNilSpecNd := by
 refine dA hT Tryz.func45 rfl (by decide +kernel) ?_
 rintro args h Q ⟨g, caps, rfl, hq⟩
 refine ⟨by simp [Tryz.f45], ?_⟩
 simp -dsimp only [Vm.E, zA, zB, zC, zD, zE, zG, zH]
 refine call_one (S := orS (ixPSpecNd T2) ixPNilSpecNd) hg0 _ GaL.rfl (.inr ⟨g, caps, rfl, ?_⟩)
 simp -dsimp only [Vm.E, zA, zB, zC, zD, zE, zG, zH, beq_self_eq_true, Tryz.results45]
 exact hq
def prefixSpec : Vm.Spec := fun args h Q => ∃ a b : List UInt8, a.length ≤ 4611686018427387904 ∧ b.length ≤ 4611686018427387904 ∧ args = [.sl 1 (a.map encB), .sl 1 (b.map encB)] ∧ Q (.v (.bool (b.isPrefixOf a))) h
theorem isPrefixOf_take : ∀ (a b : List UInt8), b.length ≤ a.length → (a.take b.length == b) = b.isPrefixOf a
 | _, [], _ => by simp
 | [], y :: b, h => by simp at h
 | x :: a, y :: b, h => by
   have ih := isPrefixOf_take a b (by simpa using h)
   simp only [zKa, List.take_succ_cons, List.isPrefixOf_cons_cons, ← ih]
   by_cases hxy : y = x
   · subst hxy; simp
   · have h1 : (x == y) = false := by simp only [beq_eq_false_iff_ne]; exact fun e => hxy e.symm
     have h2 : (y == x) = false := by simpa using hxy
     simp [List.cons_beq_cons, h1, h2]
theorem isPrefixOf_long : ∀ (a b : List UInt8), ¬ b.length ≤ a.length → b.isPrefixOf a = false
 | _, [], h => by simp at h
 | [], y :: b, h => rfl
 | x :: a, y :: b, h => by
   have ih := isPrefixOf_long a b (by simpa using h)
   simp [List.isPrefixOf_cons_cons, ih]
theorem does_hasPrefix : Does Tryz.prog 129 prefixSpec := by
 refine dA (good_cons does_equal good_nil) Tryz.func129 rfl (by decide +kernel) ?_
 rintro args h Q ⟨a, b, ha, hb, rfl, hq⟩
 refine ⟨by simp [Tryz.f129], ?_⟩
 simp -dsimp only [Vm.E, zA, zB, zC, zD, zE, zG, zH, Tryz.underlying123]
 cases c1 : decide ((a.length : Int) ≥ b.length)
 · have d1 := of_decide_eq_false c1
   rw [isPrefixOf_long a b (by omega)] at hq
   simp -dsimp only [Vm.E, zA, zB, zC, zD, zE, zG, zH, Tryz.results129]
   exact hq
 · have d1 := of_decide_eq_true c1
   simp -dsimp only [Vm.E, zA, zB, zC, zD, zE, zG, zH, Tryz.underlying123]
   refine slice_h es123 (by omega) (by simp; omega) ?_
   have e1 : (a.map encB).take (b.length : Int).toNat = (a.take b.length).map encB := by rw [zJa, List.map_take]
   simp -dsimp only [Vm.E, zA, zB, zC, zD, zE, zG, zH, e1]
   refine call_one (S := equalSpec) rfl _ GaL.rfl ⟨a.take b.length, b, rfl, ?_⟩
   simp -dsimp only [Vm.E, zA, zB, zC, zD, zE, zG, zH, Tryz.results129]
   rw [isPrefixOf_take a b (by omega)]
   exact hq
def cloneWSpec : Vm.Spec := fun args h Q => ∃ l : List UInt8, l.length ≤ 70368744177664 ∧ args = [.sl 1 (l.map encB)] ∧ Q (.own true 5 1 (l.map encB)) h ∧ Q (.sl 1 (l.map encB)) h
theorem does_cloneW : Does Tryz.prog 88 cloneWSpec := by
 refine does_clone.weak.imp ?_
 rintro args h Q ⟨l, hl, rfl, hq1, hq2⟩
 refine ⟨l, hl, rfl, fun v hv => ?_⟩
 rcases hv with rfl | ⟨rfl, rfl⟩
 · exact ⟨_, .refl _, hq1⟩
 · exact ⟨_, .nil 1, hq2⟩
abbrev KV := List UInt8 × List UInt8
def kvAv (p : KV) : AV := .agg [.sl 1 (p.1.map encB), .sl 1 (p.2.map encB)]
theorem kvAv_pr (p : KV) : isPr (kvAv p) := ⟨_, _, rfl, rfl, rfl⟩
def kvE (e : Ent) : KV := (kOf e, bytesOf e.val)
theorem nodup_of_map {α β : Type} {f : α → β} {l : List α} (h : (l.map f).Nodup) : l.Nodup := List.Pairwise.of_map f (fun a b hne e => hne (by rw [e])) h
theorem inj_of_map {α β : Type} {f : α → β} {l : List α} (h : (l.map f).Nodup) {a b : α} (ha : a ∈ l) (hb : b ∈ l) (e : f a = f b) : a = b := by
 induction l with
 | nil => cases ha
 | cons x l ih =>
   simp only [zUa, List.nodup_cons] at h
   rcases zLb.1 ha with h1 | h1
   · rcases zLb.1 hb with h2 | h2
     · rw [h1, h2]
     · exact absurd (by rw [← h1, e]; exact zKb h2) h.1
   · rcases zLb.1 hb with h2 | h2
     · exact absurd (by rw [← h2, ← e]; exact zKb h1) h.1
     · exact ih h.2 h1 h2
theorem seen_all {es done : List Ent} (hn : (es.map (·.born)).Nodup) (hd : ∀ d ∈ done, d ∈ es) (hdn : (done.map (·.born)).Nodup) (hl : leftE es (done.map (·.born)) = []) : done.Perm es := by
 refine (List.perm_ext_iff_of_nodup (nodup_of_map hdn) (nodup_of_map hn)).2 fun a => ⟨hd a, fun ha => ?_⟩
 have : a ∉ leftE es (done.map (·.born)) := by rw [hl]; simp
 unfold leftE at this
 rw [zVa] at this
 have hc : (done.map (·.born)).contains a.born = true := by
   cases hb : (done.map (·.born)).contains a.born
   · exact absurd ⟨ha, by rw [hb]; rfl⟩ this
   · rfl
 rw [List.contains_iff_mem] at hc
 obtain ⟨d, hd1, hd2⟩ := zQa.1 hc
 rw [inj_of_map hn ha (hd d hd1) hd2.symm]; exact hd1
theorem left_mem {es : List Ent} {seen : List Nat} {e : Ent} (he : e ∈ leftE es seen) : e ∈ es ∧ e.born ∉ seen := by
 unfold leftE at he
 obtain ⟨h1, h2⟩ := zVa.1 he
 exact ⟨h1, by simpa using h2⟩
theorem left_less {es : List Ent} {seen : List Nat} {e : Ent} (he : e ∈ leftE es seen) : (leftE es (seen ++ [e.born])).length < (leftE es seen).length := by
 have e1 : leftE es (seen ++ [e.born]) = (leftE es seen).filter fun x => x.born != e.born := by
   unfold leftE
   rw [List.filter_filter]
   congr 1
   funext x
   simp only [List.contains_append, Bool.not_or]
   by_cases h1 : x.born = e.born
   · simp [h1]
   · simp [h1, Bool.and_comm]
 rw [e1]
 refine List.length_filter_lt_length_iff_exists.2 ⟨e, he, by simp⟩
theorem done_more {es : List Ent} {done : List Ent} {e : Ent} (he : e ∈ leftE es (done.map (·.born))) (hd : ∀ d ∈ done, d ∈ es) (hdn : (done.map (·.born)).Nodup) :
   (∀ d ∈ done ++ [e], d ∈ es) ∧ ((done ++ [e]).map (·.born)).Nodup := by
 obtain ⟨h1, h2⟩ := left_mem he
 refine ⟨fun d hd' => ?_, ?_⟩
 · rcases List.mem_append.1 hd' with h | h
   · exact hd d h
   · rw [zOb] at h; subst h; exact h1
 · rw [zWa, List.nodup_append]
   exact ⟨hdn, by simp, fun a ha b hb => by simp only [zUa, zSb, zOb] at hb; subst hb; intro e; exact h2 (e ▸ ha)⟩
theorem find_born {es : List Ent} (hn : (es.map (·.born)).Nodup) {e : Ent} (he : e ∈ es) : es.find? (fun x => x.born == e.born) = some e := by
 induction es with
 | nil => cases he
 | cons x es ih =>
   simp only [zUa, List.nodup_cons] at hn
   rw [List.find?_cons]
   rcases zLb.1 he with rfl | he
   · simp
   · have : (x.born == e.born) = false := by
       simp only [beq_eq_false_iff_ne]
       intro h; exact hn.1 (h ▸ zKb he)
     rw [this]; exact ih hn.2 he
def baseSpec : Vm.Spec := fun args h Q => ∃ (iv ic im : Nat) (mem : List Ent) (clk : Nat) (pre : List UInt8), args = [.ptr iv 0, .sl 1 (pre.map encB)] ∧ pre.length ≤ 4611686018427387904 ∧ h[iv]? = some (vobj ic im) ∧ h[im]? = some (.map mem clk) ∧ (∀ e ∈ mem, WfM e) ∧ Born mem clk ∧ mem.length ≤ 1073741824 ∧ (∀ e ∈ mem, (kOf e).length ≤ 32) ∧
 ∀ l : List KV, l.Perm ((mem.filter fun e => pre.isPrefixOf (kOf e)).map kvE) → Q (.own true 132 2 (l.map kvAv)) h
theorem key_string {e : Ent} {k : List UInt8} (h : e.key = strK k) : AV.v e.key = .v (.string ⟨k.toArray⟩) := by rw [h]; rfl
theorem does_base : Does Tryz.prog 127 baseSpec := by
 refine dA (good_cons does_hasPrefix (good_cons does_cloneW good_nil)) Tryz.func127 rfl (by decide +kernel) ?_
 rintro args h Q ⟨iv, ic, im, mem, clk, pre, rfl, hpl, hv, hm, hw, hb, hml, hk32, hq⟩
 refine ⟨by simp [Tryz.f127], ?_⟩
 simp -dsimp only [Vm.E, zA, zB, zC, zD, zE, zG, zH, fo69_1, hv, of66]
 refine nil_pointer Tryz.underlying66 ?_
 simp -dsimp only [Vm.E, zA, zB, zC, zD, zE, zG, zH, fo69_2, hv, of67]
 refine range_intro mt67 mem clk hm ?_
 simp -dsimp only [Vm.E, zA, zB, zC, zD, zE, zG, zH]
 refine awp_loop (fun m s h' => ∃ done : List Ent, m = (leftE mem (done.map (·.born))).length ∧ done.length + m ≤ mem.length ∧ h' = h ∧ (∀ d ∈ done, d ∈ mem) ∧ (done.map (·.born)).Nodup ∧
     s = mk [(1, .sl 1 (pre.map encB)), (7, .own true 132 2 (((done.filter fun e => pre.isPrefixOf (kOf e)).map kvE).map kvAv)), (32, .iter im clk (done.map (·.born)) clk)])
   mem.length _ (le_mk _ ?_) ⟨[], (congrArg List.length (zXb.2 fun _ _ => rfl)).symm, by simp, rfl, by simp, by simp, rfl⟩ ?_
 · simp only [Vm.D]
   simp -dsimp only [Vm.E, zA, zB, zC, zD, zE, zG, zH]
   exact ⟨.refl _, .nil _ _ _ (by decide), .refl _⟩
 · rintro m s h' ⟨done, rfl, hlen, rfl, hd, hdn, rfl⟩
   simp -dsimp only [Vm.E, zA, zB, zC, zD, zE, zG, zH]
   refine next_intro mem clk hm (fun e he => hb.2 e he) (zRa _) (fun hl => ?_) (fun e he => ?_)
   · simp -dsimp only [Vm.E, zA, zB, zC, zD, zE, zG, zH, Tryz.results127]
     refine hq _ ?_
     exact ((seen_all hb.1.1 hd hdn hl).filter _).map _
   · obtain ⟨hem, heb⟩ := left_mem he
     obtain ⟨⟨k, hk⟩, l, hx, hl⟩ := hw e hem
     obtain ⟨hd2, hdn2⟩ := done_more he hd hdn
     have hless := left_less he
     have hkk := kOf_eq hk
     have hbv := bytesOf_isB hx
     have hfl : (done.filter fun e => pre.isPrefixOf (kOf e)).length ≤ done.length := zTb ..
     have ef : ((done ++ [e]).filter fun e => pre.isPrefixOf (kOf e)) = (done.filter fun e => pre.isPrefixOf (kOf e)) ++ if pre.isPrefixOf k then [e] else [] := by
       rw [zRb, zYb, zWb, hkk]
     have emap : (done ++ [e]).map (·.born) = done.map (·.born) ++ [e.born] := by simp
     simp -dsimp only [Vm.E, zA, zB, zC, zD, zE, zG, zH]
     refine entry_intro mem clk e hm (find_born hb.1.1 hem) ?_
     simp only [key_string hk]
     have hg := hx.ga
     have hbk : kvE e = (k, l) := by simp [kvE, hkk, hbv]
     have fin : (pre.isPrefixOf k = true → (done ++ [e]).filter (fun e => pre.isPrefixOf (kOf e)) = (done.filter fun e => pre.isPrefixOf (kOf e)) ++ [e]) ∧ (pre.isPrefixOf k = false → (done ++ [e]).filter (fun e => pre.isPrefixOf (kOf e)) = (done.filter fun e => pre.isPrefixOf (kOf e))) := by
       rw [ef]
       exact ⟨fun h => by rw [if_pos h], fun h => by rw [if_neg (by rw [h]; decide), zXa]⟩
     generalize e.val = x at hx hg ⊢
     have hkl : k.length ≤ 32 := by have := hk32 e hem; rw [hkk] at this; exact this
     have hks : (ByteArray.mk k.toArray).size ≤ maxLen := by
       have : (ByteArray.mk k.toArray).size = k.length := by simp [ByteArray.size]
       rw [this]; unfold maxLen; omega
     have hkd : (ByteArray.mk k.toArray).data.toList = k := by simp
     have eout : ∀ b : Bool, pre.isPrefixOf k = b → ((done ++ [e]).filter fun e => pre.isPrefixOf (kOf e)).map kvE = ((done.filter fun e => pre.isPrefixOf (kOf e)).map kvE) ++ if b then [(k, l)] else [] := fun b hb' => by
       cases b
       · rw [fin.2 hb']; simp
       · rw [fin.1 hb', zWa, zUa, zSb, hbk]; simp
     rcases hx with rfl | ⟨rfl, rfl⟩
     · simp -dsimp only [Vm.E, zA, zB, zC, zD, zE, zG, zH]
       refine cvX_bytes bt123 Tryz.underlying9 hks ?_
       simp -dsimp only [Vm.E, zA, zB, zC, zD, zE, zG, zH, hkd]
       refine call_one (S := prefixSpec) rfl _ GaL.rfl ⟨k, pre, by omega, hpl, rfl, ?_⟩
       cases hp : pre.isPrefixOf k
       · simp -dsimp only [Vm.E, zA, zB, zC, zD, zE, zG, zH]
         refine kept_intro ⟨_, hless, _, le_mk [(1, .sl 1 (pre.map encB)), (7, .own true 132 2 ((((done ++ [e]).filter fun e => pre.isPrefixOf (kOf e)).map kvE).map kvAv)), (32, .iter im clk ((done ++ [e]).map (·.born)) clk)] ?_,
           done ++ [e], by rw [emap], by rw [zNa]; simp only [zKa, zMa]; omega, rfl, hd2, hdn2, rfl⟩
         have e2 := eout false hp
         simp only [zYa, if_false, zXa] at e2
         simp only [Vm.D, e2, emap]
         simp -dsimp only [Vm.E, zA, zB, zC, zD, zE, zG, zH]
         exact ⟨.refl _, .refl _, .refl _⟩
       · simp -dsimp only [Vm.E, zA, zB, zC, zD, zE, zG, zH]
         refine cvX_bytes bt123 Tryz.underlying9 hks ?_
         simp -dsimp only [Vm.E, zA, zB, zC, zD, zE, zG, zH, hkd]
         have e2 := eout true hp
         simp only [if_true] at e2
         refine call_one (S := cloneWSpec) rfl _ (GaL.cons hg .nil) ⟨l, by omega, rfl, ?_, ?_⟩
         · simp -dsimp only [Vm.G, zA, zB, zC, zD, zE, zF, bd132, es60]
           refine bs_intro zr132 (by decide) (by decide) rfl rfl (by simp [solid, AV.cells]) ?_
           simp -dsimp only [Vm.E, zA, zB, zC, zD, zE, zG, zH, append_own ei60]
           refine app_sl Tryz.underlying60 (by simp [AV.cells]) (by simp only [zLa, zKa, zMa]; omega) ?_
           simp -dsimp only [Vm.E, zA, zB, zC, zD, zE, zG, zH]
           refine kept_intro ⟨_, hless, _, le_mk [(1, .sl 1 (pre.map encB)), (7, .own true 132 2 ((((done ++ [e]).filter fun e => pre.isPrefixOf (kOf e)).map kvE).map kvAv)), (32, .iter im clk ((done ++ [e]).map (·.born)) clk)] ?_,
             done ++ [e], by rw [emap], by rw [zNa]; simp only [zKa, zMa]; omega, rfl, hd2, hdn2, rfl⟩
           simp only [Vm.D, e2, emap, zWa, zUa, zSb]
           simp -dsimp only [Vm.E, zA, zB, zC, zD, zE, zG, zH]
           exact ⟨.refl _, .refl _, .refl _⟩
         · simp -dsimp only [Vm.G, zA, zB, zC, zD, zE, zF, bd132, es60]
           refine bs_intro zr132 (by decide) (by decide) rfl rfl (by simp [solid, AV.cells]) ?_
           simp -dsimp only [Vm.E, zA, zB, zC, zD, zE, zG, zH, append_own ei60]
           refine app_sl Tryz.underlying60 (by simp [AV.cells]) (by simp only [zLa, zKa, zMa]; omega) ?_
           simp -dsimp only [Vm.E, zA, zB, zC, zD, zE, zG, zH]
           refine kept_intro ⟨_, hless, _, le_mk [(1, .sl 1 (pre.map encB)), (7, .own true 132 2 ((((done ++ [e]).filter fun e => pre.isPrefixOf (kOf e)).map kvE).map kvAv)), (32, .iter im clk ((done ++ [e]).map (·.born)) clk)] ?_,
             done ++ [e], by rw [emap], by rw [zNa]; simp only [zKa, zMa]; omega, rfl, hd2, hdn2, rfl⟩
           simp only [Vm.D, e2, emap, zWa, zUa, zSb]
           simp -dsimp only [Vm.E, zA, zB, zC, zD, zE, zG, zH]
           exact ⟨.refl _, .refl _, .refl _⟩
     · simp -dsimp only [Vm.E, zA, zB, zC, zD, zE, zG, zH]
       refine cvX_bytes bt123 Tryz.underlying9 hks ?_
       simp -dsimp only [Vm.E, zA, zB, zC, zD, zE, zG, zH, hkd]
       refine call_one (S := prefixSpec) rfl _ GaL.rfl ⟨k, pre, by omega, hpl, rfl, ?_⟩
       cases hp : pre.isPrefixOf k
       · simp -dsimp only [Vm.E, zA, zB, zC, zD, zE, zG, zH]
         refine kept_intro ⟨_, hless, _, le_mk [(1, .sl 1 (pre.map encB)), (7, .own true 132 2 ((((done ++ [e]).filter fun e => pre.isPrefixOf (kOf e)).map kvE).map kvAv)), (32, .iter im clk ((done ++ [e]).map (·.born)) clk)] ?_,
           done ++ [e], by rw [emap], by rw [zNa]; simp only [zKa, zMa]; omega, rfl, hd2, hdn2, rfl⟩
         have e2 := eout false hp
         simp only [zYa, if_false, zXa] at e2
         simp only [Vm.D, e2, emap]
         simp -dsimp only [Vm.E, zA, zB, zC, zD, zE, zG, zH]
         exact ⟨.refl _, .refl _, .refl _⟩
       · simp -dsimp only [Vm.E, zA, zB, zC, zD, zE, zG, zH]
         refine cvX_bytes bt123 Tryz.underlying9 hks ?_
         simp -dsimp only [Vm.E, zA, zB, zC, zD, zE, zG, zH, hkd]
         have e2 := eout true hp
         simp only [if_true] at e2
         refine call_one (S := cloneWSpec) rfl _ (GaL.cons hg .nil) ⟨[], by simp, rfl, ?_, ?_⟩
         · simp -dsimp only [Vm.G, zA, zB, zC, zD, zE, zF, bd132, es60]
           refine bs_intro zr132 (by decide) (by decide) rfl rfl (by simp [solid, AV.cells]) ?_
           simp -dsimp only [Vm.E, zA, zB, zC, zD, zE, zG, zH, append_own ei60]
           refine app_sl Tryz.underlying60 (by simp [AV.cells]) (by simp only [zLa, zKa, zMa]; omega) ?_
           simp -dsimp only [Vm.E, zA, zB, zC, zD, zE, zG, zH]
           refine kept_intro ⟨_, hless, _, le_mk [(1, .sl 1 (pre.map encB)), (7, .own true 132 2 ((((done ++ [e]).filter fun e => pre.isPrefixOf (kOf e)).map kvE).map kvAv)), (32, .iter im clk ((done ++ [e]).map (·.born)) clk)] ?_,
             done ++ [e], by rw [emap], by rw [zNa]; simp only [zKa, zMa]; omega, rfl, hd2, hdn2, rfl⟩
           simp only [Vm.D, e2, emap, zWa, zUa, zSb]
           simp -dsimp only [Vm.E, zA, zB, zC, zD, zE, zG, zH]
           exact ⟨.refl _, .refl _, .refl _⟩
         · simp -dsimp only [Vm.G, zA, zB, zC, zD, zE, zF, bd132, es60]
           refine bs_intro zr132 (by decide) (by decide) rfl rfl (by simp [solid, AV.cells]) ?_
           simp -dsimp only [Vm.E, zA, zB, zC, zD, zE, zG, zH, append_own ei60]
           refine app_sl Tryz.underlying60 (by simp [AV.cells]) (by simp only [zLa, zKa, zMa]; omega) ?_
           simp -dsimp only [Vm.E, zA, zB, zC, zD, zE, zG, zH]
           refine kept_intro ⟨_, hless, _, le_mk [(1, .sl 1 (pre.map encB)), (7, .own true 132 2 ((((done ++ [e]).filter fun e => pre.isPrefixOf (kOf e)).map kvE).map kvAv)), (32, .iter im clk ((done ++ [e]).map (·.born)) clk)] ?_,
             done ++ [e], by rw [emap], by rw [zNa]; simp only [zKa, zMa]; omega, rfl, hd2, hdn2, rfl⟩
           simp only [Vm.D, e2, emap, zWa, zUa, zSb]
           simp -dsimp only [Vm.E, zA, zB, zC, zD, zE, zG, zH]
           exact ⟨.refl _, .refl _, .refl _⟩
def askSpec : Vm.Spec := fun args h Q => ∃ (k : List UInt8) (y : AV) (o iv ic im : Nat) (chg : List Ent) (clk : Nat), args = [.agg [.sl 1 (k.map encB), y], .ptr o 0] ∧ solid y = true ∧ y.cells = [y] ∧ val y = y ∧ h[o]? = some (.cells [.ptr iv 0]) ∧ h[iv]? = some (vobj ic im) ∧ h[ic]? = some (.map chg clk) ∧
 (∀ e ∈ chg, WfC e) ∧ Q (.v (.bool (mget (strK k) chg).isSome)) h
theorem does_ask : Does Tryz.prog 128 askSpec := by
 refine dA good_nil Tryz.func128 rfl (by decide +kernel) ?_
 rintro args h Q ⟨k, y, o, iv, ic, im, chg, clk, rfl, hy1, hy2, hy3, h0, h1, h2, h5, hq⟩
 refine ⟨by simp [Tryz.f128], ?_⟩
 have cz : cst (.agg #[.slice none 0 0, .bool false]) = .agg [.v (.slice none 0 0), .v (.bool false)] := by simp [cst, plain]
 have look : ∀ {K : AV → Prop}, (∀ x b, isB x (bytesOf x) ∨ x = .v (.slice none 0 0) → (mget (strK k) chg).isSome = true → K (.tup [.agg [x, .v (.bool b)], .v (.bool true)])) → ((mget (strK k) chg).isSome = false → K (.tup [.agg [.v (.slice none 0 0), .v (.bool false)], .v (.bool false)])) →
     awpLookup Tryz.prog 65 (.mp ic) (.v (.string ⟨k.toArray⟩)) true h K := fun {K} k1 k2 => by
   refine lookup_intro mt65 z137 chg clk h2 trivial (keys_str fun e he => (h5 e he).1) (fun e he => ?_) (fun he => ?_)
   · obtain ⟨-, x, l, b, hx, -, hev⟩ := h5 e (mget_mem he)
     simp only [lookRes, if_true, hev]
     exact k1 x b (by rw [bytesOf_isB hx]; exact .inl hx) (by show (mget (strK k) chg).isSome = true; have he' : mget (strK k) chg = some e := he; rw [he']; rfl)
   · simp only [lookRes, if_true, cz]
     exact k2 (by have he' : mget (strK k) chg = none := he; rw [he']; rfl)
 generalize (mget (strK k) chg).isSome = r at look hq
 simp -dsimp only [Vm.E, zA, zB, zC, zD, zE, zG, zH]
 refine draw_cont [2] (.take 4 (.take 5 (.take 6 (.alt 0 (.take 1 (.take 2 (.alt 3 (.alt 7 (.take 8 (.take 9 (.take 10 (.alt 11 (.alt 12 (.alt 13 (.done) .stop) .stop) .stop)))) (.alt 11 (.alt 7 (.take 8 (.take 9 (.take 10 (.alt 12 (.alt 13 (.done) .stop) .stop)))) .stop) (.stop))) (.alt 11 (.alt 3 (.alt 7 (.take 8 (.take 9 (.take 10 (.alt 12 (.alt 13 (.done) .stop) .stop)))) .stop) .stop) (.stop))))) (.alt 11 (.alt 0 (.take 1 (.take 2 (.alt 3 (.alt 7 (.take 8 (.take 9 (.take 10 (.alt 12 (.alt 13 (.done) .stop) .stop)))) .stop) .stop))) .stop) (.stop)))))) (fun s h' => h' = h ∧ s 5 = .v (.bool r)) (by kernel_rfl) (by kernel_rfl) (by kernel_rfl) (by decide) ?_ ?_
 · simp -dsimp only [Vm.E, zA, zB, zC, zD, zE, zG, zH, fo132_0, of123, Tryz.underlying123, cs123]
   refine strOf_sl bt123 k rfl ?_
   simp -dsimp only [Vm.E, zA, zB, zC, zD, zE, zG, zH]
   refine tree_alt ?_ (tree_alt ?_ trivial)
   · simp -dsimp only [Vm.G, zA, zB, zC, zD, zE, zF, h0, h1, fo69_0, of24, of65, al137, sz137]
     refine tree_alt ?_ (tree_alt ?_ trivial)
     · simp -dsimp only [Vm.G, zA, zB, zC, zD, zE, zF, h0, h1, fo69_0, of24, of65, al137, sz137]
       refine tree_alt ?_ (tree_alt ?_ trivial)
       · simp -dsimp only [Vm.G, zA, zB, zC, zD, zE, zF, h0, h1, fo69_0, of24, of65, al137, sz137]
         refine look (fun x b hx hr => ?_) (fun hr => ?_)
         · rcases hx with (hx | ⟨-, hx⟩) | hx <;> (rw [hx]; simp -dsimp only [Vm.G, zA, zB, zC, zD, zE, zF, h0, h1, fo69_0, of24, of65, al137, sz137]; rw [hr])
         · simp -dsimp only [Vm.G, zA, zB, zC, zD, zE, zF, h0, h1, fo69_0, of24, of65, al137, sz137]
           rw [hr]
       · simp -dsimp only [Vm.G, zA, zB, zC, zD, zE, zF, h0, h1, fo69_0, of24, of65, al137, sz137]
         refine look (fun x b hx hr => ?_) (fun hr => ?_)
         · rcases hx with (hx | ⟨-, hx⟩) | hx <;> (rw [hx]; simp -dsimp only [Vm.G, zA, zB, zC, zD, zE, zF, h0, h1, fo69_0, of24, of65, al137, sz137]; rw [hr])
         · simp -dsimp only [Vm.G, zA, zB, zC, zD, zE, zF, h0, h1, fo69_0, of24, of65, al137, sz137]
           rw [hr]
     · simp -dsimp only [Vm.G, zA, zB, zC, zD, zE, zF, h0, h1, fo69_0, of24, of65, al137, sz137]
       refine look (fun x b hx hr => ?_) (fun hr => ?_)
       · rcases hx with (hx | ⟨-, hx⟩) | hx <;> (rw [hx]; simp -dsimp only [Vm.G, zA, zB, zC, zD, zE, zF, h0, h1, fo69_0, of24, of65, al137, sz137]; rw [hr])
       · simp -dsimp only [Vm.G, zA, zB, zC, zD, zE, zF, h0, h1, fo69_0, of24, of65, al137, sz137]
         rw [hr]
   · simp -dsimp only [Vm.G, zA, zB, zC, zD, zE, zF, h0, h1, fo69_0, of24, of65, al137, sz137]
     refine look (fun x b hx hr => ?_) (fun hr => ?_)
     · rcases hx with (hx | ⟨-, hx⟩) | hx <;> (rw [hx]; simp -dsimp only [Vm.G, zA, zB, zC, zD, zE, zF, h0, h1, fo69_0, of24, of65, al137, sz137]; rw [hr])
     · simp -dsimp only [Vm.G, zA, zB, zC, zD, zE, zF, h0, h1, fo69_0, of24, of65, al137, sz137]
       rw [hr]
 · rintro s h' ⟨rfl, hs5⟩
   simp -dsimp only [Vm.E, zA, zB, zC, zD, zE, zG, zH, hs5, Tryz.results128]
   exact hq
end Go.Proofs.Lx
namespace Go.Proofs.Lx
open Go.Vm Go.RowKit Go.Sort
def BytesAt (W : World) (v : Value) (l : List UInt8) : Prop :=
 (l = [] ∧ ∃ a c, v = .slice a 0 c) ∨ ∃ b o c, v = .slice (some ⟨b, o, none⟩) l.length c ∧ ∀ j (hj : j < l.length), W.cell? ⟨b, o + j, none⟩ = some (.int .u8 l[j].toNat)
theorem BytesAt.ext {W W' : World} {v : Value} {l : List UInt8} (h : BytesAt W v l) (he : ∀ a x, W.cell? a = some x → W'.cell? a = some x) : BytesAt W' v l := by
 rcases h with h | ⟨b, o, c, hv, hc⟩
 · exact .inl h
 · exact .inr ⟨b, o, c, hv, fun j hj => he _ _ (hc j hj)⟩
theorem flat_encB : ∀ l : List UInt8, flat (l.map encB) = l.map encB := fun l => by
 induction l with
 | nil => rfl
 | cons y ys ih => simp only [flat, zUa, List.flatMap_cons] at ih ⊢; rw [ih]; rfl
theorem bytesAt_rep {w : World} {g : Gh} {l : List UInt8} {v : Value} (h : Rep w g (.sl 1 (l.map encB)) v) : BytesAt w v l := by
 generalize hx : l.map encB = xs at h
 cases h with
 | nil => exact .inl ⟨List.map_eq_nil_iff.1 hx, _, _, rfl⟩
 | empty => exact .inl ⟨List.map_eq_nil_iff.1 hx, _, _, rfl⟩
 | @sl _ _ b o c vs hc hm hsz hu hr hs =>
   subst hx
   refine .inr ⟨b, o, c, by rw [zLa], fun j hj => ?_⟩
   have hget : (flat (l.map encB))[j]? = some (encB l[j]) := by rw [flat_encB, List.getElem?_map, zVb hj]; rfl
   have h1 := (hr j _ hget).1
   have h2 := hs j _ hget
   have h3 := (rep_v (x := .int .u8 l[j].toNat) h2).1
   rw [h1, h3]
theorem run_loadBytes {P : Program} {W : World} {b : Nat} : ∀ (l : List UInt8) (o : Nat) (acc : ByteArray), (∀ j (hj : j < l.length), W.cell? ⟨b, o + j, none⟩ = some (.int .u8 l[j].toNat)) →
   (Extern.Bytes.loadBytes ⟨b, o, none⟩ l.length acc).run P W = .ok (l.foldl ByteArray.push acc) W
 | [], o, acc, _ => by simp [Extern.Bytes.loadBytes]
 | x :: l, o, acc, h => by
   have h0 := h 0 (by simp)
   simp only [Nat.add_zero, List.getElem_cons_zero] at h0
   have ih := run_loadBytes (P := P) l (o + 1) (acc.push x) fun j hj => by
     have := h (j + 1) (by simpa using hj)
     simpa [Nat.add_assoc, Nat.add_comm 1] using this
   have hl : (load ⟨b, o, none⟩).run P W = .ok (.int .u8 x.toNat) W := by simp [load, Sem.run, h0]
   have ha : (⟨b, o, none⟩ : Addr).add 1 = ⟨b, o + 1, none⟩ := addr_add b o 1
   have hx : ((x.toNat : Int).toNat).toUInt8 = x := by rw [zJa]; exact UInt8.ofNat_toNat
   simp only [zKa, Extern.Bytes.loadBytes, Sem.run_bind, hl, Result.andThen_ok, ha, hx, ih, List.foldl_cons]
theorem push_all (l : List UInt8) : ∀ acc : ByteArray, (l.foldl ByteArray.push acc).data.toList = acc.data.toList ++ l := by
 induction l with
 | nil => intro acc; simp
 | cons x l ih => intro acc; rw [List.foldl_cons, ih]; simp [ByteArray.push]
theorem run_bytesOf {P : Program} {W : World} {v : Value} {l : List UInt8} (h : BytesAt W v l) : ∃ s : ByteArray, s.data.toList = l ∧ (Extern.Bytes.bytesOf v).run P W = .ok s W := by
 rcases h with ⟨rfl, a, c, rfl⟩ | ⟨b, o, c, rfl, hc⟩
 · cases a with
   | none => exact ⟨.empty, rfl, by simp [Extern.Bytes.bytesOf]⟩
   | some a => exact ⟨.empty, rfl, by simp [Extern.Bytes.bytesOf, Extern.Bytes.loadBytes]⟩
 · refine ⟨_, ?_, by simp only [Extern.Bytes.bytesOf]; exact run_loadBytes l o .empty hc⟩
   rw [push_all]; simp
theorem run_compare {P : Program} {W : World} {v1 v2 : Value} {a b : List UInt8} (h1 : BytesAt W v1 a) (h2 : BytesAt W v2 b) :
   (Extern.BytealgCompare.compare #[v1, v2]).run P W = .ok (.int .i64 (Lib.compareBytes a b)) W := by
 obtain ⟨s1, e1, r1⟩ := run_bytesOf (P := P) h1
 obtain ⟨s2, e2, r2⟩ := run_bytesOf (P := P) h2
 show (do pure (goInt (Extern.BytealgCompare.cmp (← Extern.Bytes.bytesOf v1) (← Extern.Bytes.bytesOf v2))) : Sem Value).run P W = _
 simp only [Sem.run_bind, r1, r2, Result.andThen_ok, Lib.cmp_eq, e1, e2, Sem.run_pure]
 rfl
theorem compare_calls (W : World) (v1 v2 : Value) (a b : List UInt8) (h1 : BytesAt W v1 a) (h2 : BytesAt W v2 b) :
   Calls Tryz.prog 132 #[v1, v2] W fun e w' => e = .returned (.int .i64 (Lib.compareBytes a b)) ∧ w' = W := by
 have hr := run_compare (P := Tryz.prog) h1 h2
 generalize Lib.compareBytes a b = r at hr ⊢
 go_enter Tryz.func132, Tryz.ntmps132
 go_wp2
 rw [run_callFunc_extern Tryz.func197 (by kernel_rfl) (by kernel_rfl) (by kernel_rfl) (e := Extern.BytealgCompare.compare) (by kernel_rfl), hr]
 simp only [Result.andThen]
 rw [Oper.upon_value]
 go_wp2
 go_ret
 exact ⟨rfl, rfl⟩
theorem ext_alloc (W : World) (o : Obj) : ∀ a x, W.cell? a = some x → (W.alloc o).cell? a = some x := fun a x h => by
 have hb : a.block < W.heap.size := World.block_lt_of_cell? W a h
 rw [World.cell?_of_block (Below.heap_alloc W o a.block hb)]; exact h
theorem closure_calls (W : World) (kx vx ky vy : Value) (a b : List UInt8) (h1 : BytesAt W kx a) (h2 : BytesAt W ky b) (o1 : kx.oneCell' = true) (o2 : vx.oneCell' = true) (o3 : ky.oneCell' = true) (o4 : vy.oneCell' = true) :
   Calls Tryz.prog 131 #[.agg #[kx, vx], .agg #[ky, vy]] W fun e w' => e = .returned (.int .i64 (Lib.compareBytes a b)) ∧ ∃ q os', w' = Sort.grow (W.drewN q) os' := by
 have hcon := fun W' (he : ∀ a x, W.cell? a = some x → W'.cell? a = some x) => compare_calls W' kx ky a b (h1.ext he) (h2.ext he)
 generalize Lib.compareBytes a b = r at hcon ⊢
 clear h1 h2
 go_enter Tryz.func131, Tryz.ntmps131
 go_wp2_with (go_at_call 132; refine (hcon _ (fun a x h => ext_alloc _ _ a x (ext_alloc _ _ a x h))).mono ?_; rintro e w' ⟨rfl, rfl⟩)
 go_ret
 exact ⟨rfl, 0, _, by rw [alloc_eq_grow, alloc_eq_grow, grow_grow]; rfl⟩
end Go.Proofs.Lx
namespace Go.Proofs.Lx
open Go.Vm Go.RowKit
open Go.Sort (SWO flatK HoldsK)
theorem cb_self : ∀ a, Lib.compareBytes a a = 0
 | [] => rfl
 | x :: a => by simp [Lib.compareBytes, cb_self a]
theorem cb_trans : ∀ a b c, Lib.compareBytes a b < 0 → Lib.compareBytes b c < 0 → Lib.compareBytes a c < 0
 | [], [], c, h, _ => by simp [Lib.compareBytes] at h
 | [], y :: b, [], _, h => by simp [Lib.compareBytes] at h
 | [], y :: b, z :: c, _, _ => by simp [Lib.compareBytes]
 | x :: a, [], c, h, _ => by simp [Lib.compareBytes] at h
 | x :: a, y :: b, [], _, h => by simp [Lib.compareBytes] at h
 | x :: a, y :: b, z :: c, h1, h2 => by
   have ih := cb_trans a b c
   simp only [Lib.compareBytes] at h1 h2 ⊢
   simp only [UInt8.lt_iff_toNat_lt] at h1 h2 ⊢
   split at h1 <;> split at h2
   · rw [if_pos (by omega)]; decide
   · split at h2
     · simp at h2
     · rw [if_pos (by omega)]; decide
   · split at h1
     · simp at h1
     · rw [if_pos (by omega)]; decide
   · split at h1
     · simp at h1
     · split at h2
       · simp at h2
       · rw [if_neg (by omega), if_neg (by omega)]; exact ih h1 h2
theorem cb_eq : ∀ a b, ¬ Lib.compareBytes a b < 0 → ¬ Lib.compareBytes b a < 0 → a = b
 | [], [], _, _ => rfl
 | [], y :: b, h, _ => by simp [Lib.compareBytes] at h
 | x :: a, [], _, h => by simp [Lib.compareBytes] at h
 | x :: a, y :: b, h1, h2 => by
   have ih := cb_eq a b
   simp only [Lib.compareBytes] at h1 h2
   simp only [UInt8.lt_iff_toNat_lt] at h1 h2
   by_cases c1 : x.toNat < y.toNat
   · rw [if_pos c1] at h1; simp at h1
   · by_cases c2 : y.toNat < x.toNat
     · rw [if_pos c2] at h2; simp at h2
     · rw [if_neg c1, if_neg c2] at h1
       rw [if_neg c2, if_neg c1] at h2
       have : x = y := UInt8.toNat_inj.1 (by omega)
       rw [this, ih h1 h2]
theorem cb_asymm (a b : List UInt8) (h : Lib.compareBytes a b < 0) : ¬ Lib.compareBytes b a < 0 := fun h2 => by
 have := cb_trans a b a h h2
 rw [cb_self] at this; omega
theorem swo_keys {α : Type} (key : α → List UInt8) : SWO (ltOf fun x y => Lib.compareBytes (key x) (key y)) := by
 refine ⟨fun x => by simp [ltOf, cb_self], fun x y z h1 h2 => ?_, fun x y z h1 h2 => ?_⟩
 · simp only [ltOf, decide_eq_true_eq] at h1 h2 ⊢; exact cb_trans _ _ _ h1 h2
 · simp only [ltOf, decide_eq_false_iff_not] at h1 h2 ⊢
   intro h3
   by_cases h4 : Lib.compareBytes (key y) (key x) < 0
   · exact h2 (cb_trans _ _ _ h4 h3)
   · have := cb_eq _ _ h1 h4
     rw [this] at h3; exact h2 h3
theorem sortW_heap {α : Type} [Inhabited α] (enc : α → List Value) (w : World) (b m : Nat) (dk : Array α) (os : Array Obj) :
   (∀ k, k < w.heap.size → k ≠ b → (sortWorldK enc 2 w b 0 m dk os).heap[k]? = w.heap[k]?) ∧ w.heap.size ≤ (sortWorldK enc 2 w b 0 m dk os).heap.size ∧
     ∀ vs e fr, w.heap[b]? = some (.cells vs e fr) → (sortWorldK enc 2 w b 0 m dk os).heap[b]? = some (.cells (Sort.putCells id 0 (flatK enc 2 dk) vs) e fr) := by
 have hs : (Sort.putRow id (Sort.ahead w m) b 0 (flatK enc 2 dk)).heap.size = w.heap.size := by simp [Sort.putRow, Sort.mapBlock, Sort.ahead]
 have hg : ∀ k, k < w.heap.size → (sortWorldK enc 2 w b 0 m dk os).heap[k]? = (w.heap.modify b (Sort.onCells (Sort.putCells id 0 (flatK enc 2 dk))))[k]? := fun k hk => by
   show ((Sort.putRow id (Sort.ahead w m) b 0 (flatK enc 2 dk)).heap ++ os)[k]? = _
   rw [Array.getElem?_append_left (by rw [hs]; exact hk)]; rfl
 refine ⟨fun k hk hne => ?_, ?_, fun vs e fr hb => ?_⟩
 · rw [hg k hk, Array.getElem?_modify, if_neg (fun e => hne e.symm)]
 · show w.heap.size ≤ ((Sort.putRow id (Sort.ahead w m) b 0 (flatK enc 2 dk)).heap ++ os).size
   rw [Array.size_append, hs]; omega
 · rw [hg b (lt_of_heap hb), Array.getElem?_modify, if_pos rfl, hb]; rfl
def sortPSpec : Vm.Spec := fun args h Q => ∃ (l : List KV) (h0 : Heap) (c e : Nat), args = [.osl h0.length 0 l.length c, .clo 131 []] ∧ h = h0 ++ [.row e (c * 2) (flat (l.map kvAv))] ∧ (l.map Prod.fst).Nodup ∧ l.length < 4611686018427387904 ∧ l.length ≤ c ∧
 ∀ l' : List KV, l'.Perm l → l'.Pairwise (fun a b => Lib.compareBytes a.1 b.1 < 0) → Q (.tup []) (h0 ++ [.row e (c * 2) (flat (l'.map kvAv))])
theorem flat_kv (l : List KV) (i r : Nat) (hi : i < l.length) (hr : r < 2) : (flat (l.map kvAv))[i * 2 + r]? = (kvAv l[i]).cells[r]? :=
 flat_get (fun x hx => by obtain ⟨p, -, rfl⟩ := zQa.1 hx; rfl) (by rw [List.getElem?_map, zVb hi]; rfl) r hr
theorem get!_toArray_fin {n : Nat} [Inhabited (Fin n)] (d : List (Fin n)) (i : Nat) (hi : i < d.length) : (d.toArray)[i]! = d[i] := by
 rw [getElem!_pos d.toArray i (by simpa using hi)]; simp
theorem does_sortP : Does Tryz.prog 130 sortPSpec := by
 refine ⟨⟨Tryz.f130, Tryz.func130, by kernel_rfl, by decide +kernel⟩, ?_⟩
 rintro args h Q ⟨l, h0, c, e, rfl, rfl, hnd, hln, hlc, hq⟩ w g vs hvs hrep hh hfr hlaid
 have hm : h0.length < g.n := by rw [← hh.n]; simp
 generalize hb : g.loc h0.length = b
 have hrow : RowE w g e (c * 2) (flat (l.map kvAv)) b := by
   have : ObjRep w g (.row e (c * 2) (flat (l.map kvAv))) (g.loc h0.length) := hh.obj h0.length _ (heap_last _ _)
   rw [hb] at this; exact this
 have hblt : b < w.heap.size := by rw [← hb]; exact hh.lt _ hm
 have hv0 : vs.getD 0 undef = .slice (some ⟨b, 0, none⟩) l.length c := by
   have := hrep 0 _ rfl
   generalize vs.getD 0 undef = v at this
   cases this with | osl => rw [hb]
 have hv1 : vs.getD 1 undef = .func (.func 131) #[] #[] := by
   have := hrep 1 _ rfl
   generalize vs.getD 1 undef = v at this
   cases this with | @clo _ _ cv hl hs => rw [Array.eq_empty_of_size_eq_zero (xs := cv) (by simpa using hl)]
 have hvs2 : vs = #[.slice (some ⟨b, 0, none⟩) l.length c, .func (.func 131) #[] #[]] := by
   have h2 : vs.size = 2 := hvs
   apply Array.ext
   · simpa using h2
   · intro i hi1 hi2
     have : i = 0 ∨ i = 1 := by omega
     rcases this with rfl | rfl
     · simpa [Array.getD, h2] using hv0
     · simpa [Array.getD, h2] using hv1
 subst hvs2
 -- what holds behind it, by where the cells went
 have fin : ∀ (w' : World) (l' : List KV), l'.Perm l → l'.Pairwise (fun a b => Lib.compareBytes a.1 b.1 < 0) → w'.os = w.os ∧ w'.tape = w.tape ∧ w'.output = w.output → w.heap.size ≤ w'.heap.size → (∀ k, k < w.heap.size → k ≠ b → w'.heap[k]? = w.heap[k]?) →
     (Keeps w g w' g → RowE w' g e (c * 2) (flat (l'.map kvAv)) b) →
     ∃ r h' g' v, Q r h' ∧ Ending.returned (.tuple #[]) = .returned v ∧ ResRep w' g' w.heap.size r v ∧ HeapRep w' g' h' ∧ Vm.Frame w g w' ∧
       g.n ≤ g'.n ∧ (∀ i, i < g.n → g'.loc i = g.loc i) ∧ (∀ b, b < w.heap.size → g'.pub b = g.pub b) ∧ (∀ i, i < g'.n → g.n ≤ i → w.heap.size ≤ g'.loc i) ∧ (∀ b, w'.heap.size ≤ b → g'.pub b = 0) := fun w' l' hp hs hw hsz hblk hrow' => by
   have hpub : g.pub b = 0 := by obtain ⟨-, -, -, -, h4, -⟩ := hrow; exact h4
   have hk : Keeps w g w' g := ⟨fun _ => zRa _, fun k j v hj hv => by
     have hkb : k ≠ b := fun e => by rw [e, hpub] at hj; omega
     have hkl : k < w.heap.size := by
       rcases zJc k w.heap.size with h | h
       · exact h
       · rw [hfr k h] at hj; omega
     rw [World.cell?_of_block (a := ⟨k, j, none⟩) (hblk k hkl hkb)]; exact hv, zRa _, fun _ _ => rfl⟩
   refine ⟨.tup [], h0 ++ [.row e (c * 2) (flat (l'.map kvAv))], g, .tuple #[], hq l' hp hs, rfl, .tup rfl (fun j u hu => by simp at hu), ?_, ?_, zRa _, fun _ _ => rfl, fun _ _ => rfl, fun i hi h1 => by omega, fun k hk' => hfr k (Nat.le_trans hsz hk')⟩
   · refine ⟨by rw [← hh.n]; simp, fun i hi => Nat.lt_of_lt_of_le (hh.lt i hi) hsz, hh.inj, fun i o ho => ?_⟩
     rcases zJc i h0.length with hi | hi
     · rw [zUb hi] at ho
       have hig : i < g.n := by omega
       have hne : g.loc i ≠ b := fun e => by
         have := hh.inj i h0.length hig hm (e.trans hb.symm)
         omega
       exact (hh.obj i o (by rw [zUb hi]; exact ho)).keepAt hk ⟨hblk _ (hh.lt i hig) hne, rfl⟩
     · have hie : i = h0.length := by
         rcases zJc i (h0.length + 1) with h | h
         · omega
         · rw [zPb (by simp; omega)] at ho; cases ho
       subst hie
       rw [heap_last] at ho
       cases ho
       show RowE _ _ _ _ _ (g.loc h0.length)
       rw [hb]; exact hrow' hk
   · exact ⟨hw.1, hw.2.1, hw.2.2, hsz, fun k hk' hno => hblk k hk' fun e => hno _ hm (hb.trans e.symm)⟩
 by_cases hn : l.length = 0
 · have hl : l = [] := List.eq_nil_of_length_eq_zero hn
   subst hl
   refine (AnyF.slices_SortFunc_none Tryz.sortPair (some ⟨b, 0, none⟩) c _ w).mono ?_
   rintro e' w' ⟨rfl, rfl⟩
   exact fin w' [] (.refl _) .nil ⟨rfl, rfl, rfl⟩ (zRa _) (fun _ _ _ => rfl) fun _ => hrow
 · obtain ⟨cur, a1, a2, a3, a4, a5, a6⟩ := hrow
   have hi : Inhabited (Fin l.length) := ⟨⟨0, by omega⟩⟩
   have hfl : (flat (l.map kvAv)).length = l.length * 2 := by
     rw [flat_length (sz := 2) (fun x hx => by obtain ⟨p, -, rfl⟩ := zQa.1 hx; rfl), zLa]
   let enc : Fin l.length → List Value := fun i => [cur.getD (i.1 * 2) undef, cur.getD (i.1 * 2 + 1) undef]
   have henc : ∀ (i : Fin l.length) (r : Nat), r < 2 → (enc i)[r]! = cur.getD (i.1 * 2 + r) undef := fun i r hr => by
     have : r = 0 ∨ r = 1 := by omega
     rcases this with rfl | rfl <;> rfl
   let cf : Fin l.length → Fin l.length → Int := fun i j => Lib.compareBytes l[i].1 l[j].1
   have hcell : ∀ j, j < l.length * 2 → (cur.getD j undef).oneCell' = true := fun j hj => a5 j (by omega)
   have hrepc : ∀ (i : Fin l.length) (r : Nat) (u : AV), r < 2 → (kvAv l[i]).cells[r]? = some u → Rep w g u (cur.getD (i.1 * 2 + r) undef) := fun i r u hr hu => a6 _ u (by rw [flat_kv l i.1 r i.2 hr]; exact hu)
   have h1 : ∀ x, ∀ v ∈ enc x, v.oneCell' = true := fun x v hv => by
     have hx := x.2
     simp only [enc, zLb, List.not_mem_nil, or_false] at hv
     rcases hv with rfl | rfl
     · exact hcell _ (by omega)
     · exact hcell _ (by omega)
   have hkW : ∀ m dk os, Keeps w g (sortWorldK enc 2 w b 0 m dk os) g := fun m dk os => by
     obtain ⟨q1, q2, q3⟩ := sortW_heap enc w b m dk os
     exact ⟨fun _ => zRa _, fun k j v hj hv => by
       have hkb : k ≠ b := fun e => by rw [e, a4] at hj; omega
       have hkl : k < w.heap.size := by
         rcases zJc k w.heap.size with h | h
         · exact h
         · rw [hfr k h] at hj; omega
       rw [World.cell?_of_block (a := ⟨k, j, none⟩) (q1 k hkl hkb)]; exact hv, zRa _, fun _ _ => rfl⟩
   have hcmp : CmpLays Tryz.prog 131 #[] enc 2 cf b 0 (zMb l.length).toArray.size w := fun m os dk _ x y => by
     have hx := x.2
     have hy := y.2
     have r1 := (hrepc x 0 (.sl 1 (l[x].1.map encB)) (by decide) rfl).keep (hkW m dk os)
     have r2 := (hrepc y 0 (.sl 1 (l[y].1.map encB)) (by decide) rfl).keep (hkW m dk os)
     have := closure_calls (sortWorldK enc 2 w b 0 m dk os) (cur.getD (x.1 * 2) undef) (cur.getD (x.1 * 2 + 1) undef) (cur.getD (y.1 * 2) undef) (cur.getD (y.1 * 2 + 1) undef) l[x].1 l[y].1
       (bytesAt_rep r1) (bytesAt_rep r2) (hcell _ (by omega)) (hcell _ (by omega)) (hcell _ (by omega)) (hcell _ (by omega))
     exact this
   have hdsz : (zMb l.length).toArray.size = l.length := by simp
   have hdg : ∀ i, (hi : i < l.length) → (zMb l.length).toArray[i]! = ⟨i, hi⟩ := fun i hi => by
     rw [getElem!_pos _ i (by simpa using hi)]; simp
   have hH : HoldsK enc 2 w b 0 (zMb l.length).toArray := fun j hj => by
     rw [Sort.size_flatK, hdsz] at hj
     rw [Nat.zero_add]
     refine ⟨?_, ?_⟩
     · rw [cell_of_row w b j cur e (0, 0) a1, Sort.get_flatK _ _ _ _ (by rw [hdsz]; exact hj), hdg _ (by omega), henc _ _ (by omega)]
       have e1 : j / 2 * 2 + j % 2 = j := by omega
       rw [e1]
       simp [Array.getD, show j < cur.size by omega]
     · simp [World.frozen?, a1]
   have hT : ∀ x y : Fin l.length, (ltOf cf) x y = false → (ltOf cf) y x = false → x = y := fun x y hx hy => by
     simp only [ltOf, decide_eq_false_iff_not] at hx hy
     have := cb_eq _ _ hx hy
     have hp := List.pairwise_iff_getElem.1 hnd
     apply Fin.ext
     rcases Nat.lt_trichotomy x.1 y.1 with h | h | h
     · exact absurd (by simpa using this) (hp x.1 y.1 (by simp) (by simp) h)
     · exact h
     · exact absurd (by simpa using this.symm) (hp y.1 x.1 (by simp) (by simp) h)
   have eg : ∀ args w, (callFunc 131 args).run Tryz.prog w = .ok (.enter 131 args) w := enters_of Tryz.func131 (by kernel_rfl) rfl
   have key := AnyQ.slices_SortFunc_total Tryz.sortPair 2 Tryz.isAgg132 Tryz.sizeOf132 enc (fun _ => rfl) h1 cf (swo_keys fun i : Fin l.length => l[i].1) 131 #[] b 0 c (zMb l.length).toArray w eg hcmp hH hblt (by rw [hdsz]; exact hln) hT
   rw [hdsz] at key
   refine Calls.mono key ?_
   rintro e' w' ⟨rfl, m, os, rfl⟩
   have hperm := List.mergeSort_perm (zMb l.length) (fun x y => !(ltOf cf) y x)
   have hsort := List.pairwise_mergeSort (le := fun x y => !(ltOf cf) y x) (fun x y z h1 h2 => by
       have hs := (swo_keys fun i : Fin l.length => l[i].1).ntrans z y x
       simp only [Bool.not_eq_true'] at h1 h2 ⊢
       exact hs h2 h1) (fun x y => by
       cases hxy : ltOf cf y x
       · simp
       · have : ltOf cf x y = false := by
           simp only [ltOf, decide_eq_true_eq, decide_eq_false_iff_not] at hxy ⊢
           exact cb_asymm _ _ hxy
         simp [this]) (zMb l.length)
   have htl : (zMb l.length).toArray.toList = zMb l.length := by simp
   rw [htl]
   generalize hds : List.mergeSort (zMb l.length) (fun x y => !(ltOf cf) y x) = ds at hperm hsort
   have hlen : ds.length = l.length := by rw [hperm.length_eq]; simp
   have hget : (zMb l.length).map (fun i => l[i]) = l := by
     apply List.ext_getElem
     · simp
     · intro i h1 h2; simp
   have hnodup : ds.Nodup := hperm.nodup_iff.2 (List.nodup_finRange _)
   obtain ⟨q1, q2, q3⟩ := sortW_heap enc w b m ds.toArray os
   refine fin _ (ds.map fun i => l[i]) ?_ ?_ ⟨rfl, rfl, rfl⟩ q2 q1 fun hk => ?_
   · have := hperm.map fun i : Fin l.length => l[i]
     rw [hget] at this; exact this
   · rw [List.pairwise_map]
     refine (hsort.and hnodup).imp fun {x y} hxy => ?_
     obtain ⟨hle, hne⟩ := hxy
     by_cases hlt : cf x y < 0
     · exact hlt
     · exact absurd (hT x y (by simpa [ltOf] using hlt) (by simpa using hle)) hne
   · refine ⟨_, q3 cur e (0, 0) a1, by simp [Sort.putCells, a2], by rw [flat_length (sz := 2) (fun x hx => by obtain ⟨p, -, rfl⟩ := zQa.1 hx; rfl)]; simp; omega, a4, fun j hj => ?_, fun j u hu => ?_⟩
     all_goals
       have hj' : j < l.length * 2 := by
         have hfl2 : (flat ((ds.map fun i => l[i]).map kvAv)).length = l.length * 2 := by
           rw [flat_length (sz := 2) (fun x hx => by obtain ⟨p, -, rfl⟩ := zQa.1 hx; rfl)]; simp [hlen]
         first
           | omega
           | (rcases zJc j (l.length * 2) with h' | h'
              · exact h'
              · rw [zPb (by omega)] at hu; cases hu)
       have hjd : j / 2 < ds.length := by omega
       have hnew : (Sort.putCells id 0 (flatK enc 2 ds.toArray) cur).getD j undef = cur.getD (ds[j / 2].1 * 2 + j % 2) undef := by
         have hjc : j < cur.size := by omega
         have e1 : (Sort.putCells id 0 (flatK enc 2 ds.toArray) cur).getD j undef = (flatK enc 2 ds.toArray)[j]! := by
           simp only [Sort.putCells]
           simp [Array.getD, hjc, hlen, hj']
         rw [e1, Sort.get_flatK _ _ _ _ (by simp [hlen]; exact hj'), get!_toArray_fin ds _ hjd, henc _ _ (by omega)]
     · rw [hnew]
       have := ds[j / 2].2
       exact hcell _ (by omega)
     · rw [hnew]
       have hu' : (kvAv l[ds[j / 2]]).cells[j % 2]? = some u := by
         have := flat_kv (ds.map fun i => l[i]) (j / 2) (j % 2) (by simpa using hjd) (by omega)
         rw [show j / 2 * 2 + j % 2 = j by omega, hu] at this
         rw [this]; simp
       exact (hrepc ds[j / 2] (j % 2) u (by omega) hu').keep hk
def sortPNilSpec : Vm.Spec := fun args h Q => ∃ g, args = [.v (.slice none 0 0), .clo g []] ∧ Q (.tup []) h
theorem does_sortPNil : Does Tryz.prog 130 sortPNilSpec := by
 refine ⟨⟨Tryz.f130, Tryz.func130, by kernel_rfl, by decide +kernel⟩, ?_⟩
 rintro args h Q ⟨f, rfl, hq⟩ w g vs hvs hrep hh hfr hlaid
 have hv0 : vs.getD 0 undef = .slice none 0 0 := (rep_v (hrep 0 _ rfl)).1
 have hvs2 : vs = #[.slice none 0 0, vs.getD 1 undef] := by
   have h2 : vs.size = 2 := hvs
   apply Array.ext
   · simpa using h2
   · intro i hi1 hi2
     have : i = 0 ∨ i = 1 := by omega
     rcases this with rfl | rfl
     · simpa [Array.getD, h2] using hv0
     · simp [Array.getD, h2]
 rw [hvs2]
 refine (AnyF.slices_SortFunc_none Tryz.sortPair none 0 _ w).mono ?_
 rintro e' w' ⟨rfl, rfl⟩
 exact ⟨.tup [], h, g, .tuple #[], hq, rfl, .tup rfl (fun j u hu => by simp at hu), hh, ⟨rfl, rfl, rfl, zRa _, fun _ _ _ => rfl⟩, zRa _, fun _ _ => rfl, fun _ _ => rfl, fun i hi h1 => by omega, hfr⟩
end Go.Proofs.Lx
namespace Go.Proofs.Lx
open Go.Vm
theorem mget_iff {es : List Ent} (hk : ∀ e ∈ es, ∃ k, e.key = strK k) (hn : (es.map kOf).Nodup) {k : List UInt8} {e : Ent} : mget (strK k) es = some e ↔ e ∈ es ∧ kOf e = k := by
 constructor
 · intro h
   have hm := mget_mem h
   obtain ⟨q, hq⟩ := hk e hm
   have := List.find?_some (p := fun (e : Ent) => keyEq (strK k) e.key) h
   rw [hq, keyEq_str] at this
   exact ⟨hm, by rw [kOf_eq hq]; exact (by simpa using this : k = q).symm⟩
 · rintro ⟨hm, hke⟩
   cases hf : mget (strK k) es with
   | none =>
     have := List.find?_eq_none.1 hf e hm
     obtain ⟨q, hq⟩ := hk e hm
     rw [hq, keyEq_str, ← hke, kOf_eq hq] at this
     simp at this
   | some e' =>
     have hm' := mget_mem hf
     obtain ⟨q, hq⟩ := hk e' hm'
     have := List.find?_some (p := fun (e : Ent) => keyEq (strK k) e.key) hf
     rw [hq, keyEq_str] at this
     have hkq : k = q := by simpa using this
     rw [inj_of_map hn hm hm' (by rw [hke, kOf_eq hq]; exact hkq)]
theorem mget_some {es : List Ent} (hk : ∀ e ∈ es, ∃ k, e.key = strK k) (hn : (es.map kOf).Nodup) {k : List UInt8} : (mget (strK k) es).isSome = true ↔ k ∈ es.map kOf := by
 constructor
 · intro h
   obtain ⟨e, he⟩ := Option.isSome_iff_exists.1 h
   obtain ⟨h1, h2⟩ := (mget_iff hk hn).1 he
   rw [← h2]; exact zKb h1
 · intro h
   obtain ⟨e, h1, h2⟩ := zQa.1 h
   rw [(mget_iff hk hn).2 ⟨h1, h2⟩]; rfl
def valC (e : Ent) : AV := match e.val with
 | .agg [x, _] => x
 | _ => .any
def goneC (e : Ent) : Bool := match e.val with
 | .agg [_, .v (.bool b)] => b
 | _ => true
def kvC (e : Ent) : KV := (kOf e, bytesOf (valC e))
theorem shape_C {e : Ent} (h : WfC e) : shapeOf e.val = if goneC e then none else some (kvC e).2 := by
 obtain ⟨-, x, l, b, -, -, hv⟩ := h
 unfold goneC kvC valC
 rw [hv]
 cases b <;> simp [shapeOf]
abbrev keyLt (a b : KV) : Prop := Lib.compareBytes a.1 b.1 < 0
def ScanIs (f : Fun) (pre : List UInt8) (l : List KV) : Prop := l.Pairwise keyLt ∧ ∀ k v, (k, v) ∈ l ↔ f k = some v ∧ pre.isPrefixOf k = true
section
variable {chg mem : List Ent} {clk clk2 : Nat} {pre : List UInt8} {l0 : List KV} {D : List Ent}
abbrev scanL (chg : List Ent) (pre : List UInt8) (l0 : List KV) (D : List Ent) : List KV := (l0.filter fun p => !(mget (strK p.1) chg).isSome) ++ (D.filter fun e => !goneC e && pre.isPrefixOf (kOf e)).map kvC
theorem scan_keys (hc : ∀ e ∈ chg, WfC e) (bc : Born chg clk) (bm : Born mem clk2) (hl0 : l0.Perm ((mem.filter fun e => pre.isPrefixOf (kOf e)).map kvE)) (hD : D.Perm chg) : ((scanL chg pre l0 D).map Prod.fst).Nodup := by
 have hkc : ∀ e ∈ chg, ∃ k, e.key = strK k := fun e he => (hc e he).1
 rw [zWa, List.nodup_append]
 refine ⟨?_, ?_, ?_⟩
 · have h1 : (l0.map Prod.fst).Nodup := by
     refine (hl0.map Prod.fst).nodup_iff.2 ?_
     rw [List.map_map]
     have : ((mem.filter fun e => pre.isPrefixOf (kOf e)).map (Prod.fst ∘ kvE)) = (mem.filter fun e => pre.isPrefixOf (kOf e)).map kOf := by apply List.map_congr_left; intro e _; rfl
     rw [this]
     exact (List.filter_sublist.map kOf).nodup bm.1.2
   exact (List.filter_sublist.map Prod.fst).nodup h1
 · rw [List.map_map]
   have : ((D.filter fun e => !goneC e && pre.isPrefixOf (kOf e)).map (Prod.fst ∘ kvC)) = (D.filter fun e => !goneC e && pre.isPrefixOf (kOf e)).map kOf := by apply List.map_congr_left; intro e _; rfl
   rw [this]
   exact (List.filter_sublist.map kOf).nodup ((hD.map kOf).nodup_iff.2 bc.1.2)
 · intro a ha b hb hab
   subst hab
   obtain ⟨p, hp, rfl⟩ := zQa.1 ha
   have hp2 := (zVa.1 hp).2
   obtain ⟨q, hq, hqe⟩ := zQa.1 hb
   obtain ⟨e, he, rfl⟩ := zQa.1 hq
   have hec : e ∈ chg := hD.mem_iff.1 (zVa.1 he).1
   have hke : kOf e = p.1 := hqe
   have : (mget (strK p.1) chg).isSome = true := (mget_some hkc bc.1.2).2 (hke ▸ zKb hec)
   rw [this] at hp2; cases hp2
theorem scan_law (hc : ∀ e ∈ chg, WfC e) (hm : ∀ e ∈ mem, WfM e) (bc : Born chg clk) (bm : Born mem clk2) {f : Fun} (h7 : ∀ k, f k = nowOf chg mem k) (hl0 : l0.Perm ((mem.filter fun e => pre.isPrefixOf (kOf e)).map kvE)) (hD : D.Perm chg)
   {l' : List KV} (hp : l'.Perm (scanL chg pre l0 D)) (hs : l'.Pairwise keyLt) : ScanIs f pre l' := by
 have hkc : ∀ e ∈ chg, ∃ k, e.key = strK k := fun e he => (hc e he).1
 have hkm : ∀ e ∈ mem, ∃ k, e.key = strK k := fun e he => (hm e he).1
 refine ⟨hs, fun k v => ?_⟩
 rw [hp.mem_iff, List.mem_append, h7, nowOf]
 constructor
 · rintro (h | h)
   · obtain ⟨h1, h2⟩ := zVa.1 h
     obtain ⟨e, he, hkv⟩ := zQa.1 (hl0.mem_iff.1 h1)
     obtain ⟨h3, h4⟩ := zVa.1 he
     simp only [kvE, Prod.mk.injEq] at hkv
     have hno : mget (strK k) chg = none := by
       cases hx : mget (strK k) chg with
       | none => rfl
       | some x => rw [show mget (strK (k, v).1) chg = some x from hx] at h2; cases h2
     rw [hno]
     refine ⟨?_, by rw [← hkv.1]; exact h4⟩
     simp only
     rw [(mget_iff hkm bm.1.2).2 ⟨h3, hkv.1⟩]
     simp [hkv.2]
   · obtain ⟨e, he, hkv⟩ := zQa.1 h
     obtain ⟨h3, h4⟩ := zVa.1 he
     have hec := hD.mem_iff.1 h3
     simp only [Bool.and_eq_true, Bool.not_eq_true'] at h4
     have hk : kOf e = k := congrArg Prod.fst hkv
     have hv : (kvC e).2 = v := congrArg Prod.snd hkv
     rw [(mget_iff hkc bc.1.2).2 ⟨hec, hk⟩]
     refine ⟨?_, by rw [← hk]; exact h4.2⟩
     simp only
     rw [shape_C (hc e hec), h4.1, hv]; rfl
 · rintro ⟨h1, h2⟩
   cases hx : mget (strK k) chg with
   | none =>
     rw [hx] at h1
     simp only at h1
     cases hy : mget (strK k) mem with
     | none => rw [hy] at h1; cases h1
     | some e =>
       rw [hy] at h1
       simp only [Option.map_some, Option.some.injEq] at h1
       obtain ⟨h3, h4⟩ := (mget_iff hkm bm.1.2).1 hy
       refine .inl (zVa.2 ⟨hl0.mem_iff.2 (zQa.2 ⟨e, zVa.2 ⟨h3, by rw [h4]; exact h2⟩, by simp [kvE, h4, h1]⟩), ?_⟩)
       show (!(mget (strK k) chg).isSome) = true
       rw [hx]; rfl
   | some e =>
     rw [hx] at h1
     simp only at h1
     obtain ⟨h3, h4⟩ := (mget_iff hkc bc.1.2).1 hx
     rw [shape_C (hc e h3)] at h1
     cases hg : goneC e
     · rw [hg] at h1
       simp only [zYa, if_false, Option.some.injEq] at h1
       exact .inr (zQa.2 ⟨e, zVa.2 ⟨hD.mem_iff.2 h3, by rw [hg, h4, h2]; rfl⟩, by rw [← h1, ← h4]; rfl⟩)
     · rw [hg] at h1; simp at h1
end
end Go.Proofs.Lx
namespace Go.Proofs.Lx
open Go.Vm
attribute [local irreducible] awpArr awpBin awpMake awpAppend awpCvX awpStrOf awpBinX awpSlice awpBS awpStore awpAlloc awpCopy awpIndex awpDraw awpIdxX awpFa awpField awpLookup awpUpdate awpDelete awpClear awpRange awpNext awpEntry awpBuild awpClearS awpIdxL
def askT : Tab := tab [(128, askSpec)]
def delT : Tab := tab [(193, orS (ixPSpec askT) ixPNilSpec), (128, askSpec)]
theorem good_askT : Good askT := good_cons does_ask good_nil
theorem good_delT : Good delT := good_cons (does_or (does_ixP good_askT) does_ixPNil) (good_cons does_ask good_nil)
theorem ask_sub : ∀ g S, askT g = some S → delT g = some S := fun g S h => by
 unfold askT delT tab at *
 simp only [List.lookup] at h ⊢
 split at h
 · rename_i e
   have hg : g = 128 := by simpa using e
   subst hg; cases h; rfl
 · cases h
theorem does_del : Does Tryz.prog 126 (orS (delPSpec askT) delPNilSpec) :=
 does_or (does_delP good_delT ask_sub rfl) (does_delPNil (T2 := askT) good_delT rfl)
theorem does_sort : Does Tryz.prog 130 (orS sortPSpec sortPNilSpec) := does_or does_sortP does_sortPNil
theorem heap_get {h : Heap} {i : Nat} {x : AObj} (r : List AObj) (hi : h[i]? = some x) : (h ++ r)[i]? = some x := by
 have hlt : i < h.length := by
   rcases zJc i h.length with h' | h'
   · exact h'
   · rw [zPb h'] at hi; cases hi
 rw [zUb hlt]; exact hi
theorem isView.more {h : Heap} {V : VId} {f : Fun} (hV : isView h V f) (r : List AObj) : isView (h ++ r) V f := by
 obtain ⟨chg, clk, mem, clk2, h1, h2, h3, h4⟩ := hV
 exact ⟨chg, clk, mem, clk2, heap_get r h1, heap_get r h2, heap_get r h3, h4⟩
theorem Same.more (h : Heap) (r : List AObj) : Same h (h ++ r) [] := ⟨by simp, fun i hi _ => zUb hi⟩
def askP (chg : List Ent) (x : AV) : Bool := match x with
 | .agg [k, _] => (mget (strK (bytesOf k)) chg).isSome
 | _ => false
theorem askP_kv (chg : List Ent) (p : KV) : askP chg (kvAv p) = (mget (strK p.1) chg).isSome := by
 have : bytesOf (.sl 1 (p.1.map encB)) = p.1 := bytesOf_isB (.inl rfl)
 simp only [askP, kvAv, this]
theorem stay_kv (chg : List Ent) (l : List KV) : stay (askP chg) (l.map kvAv) = (l.filter fun p => !(mget (strK p.1) chg).isSome).map kvAv := by
 rw [stay, List.filter_map]
 congr 1
 apply List.filter_congr
 intro p _
 simp only [Function.comp, askP_kv]
theorem callI_ret {S : Vm.Spec} {f : FuncId} {R : Option Vm.Spec} {bs : List AV} {k0 e sz : Nat} {xs xs' : List AV} {s : Slots} {h : Heap} {K : AV → Slots → Heap → Prop} (hT : R = some S) (hsub : ∀ x ∈ xs', x ∈ xs)
   (hn : xs = [] → xs' = [] ∧ ∀ Q' : AV → Heap → Prop, Q' (.v (.slice none 0 0)) h → S (.v (.slice none 0 0) :: bs) h Q')
   (hb : ∀ c, xs.length ≤ c → ∀ Q' : AV → Heap → Prop, (∀ cs, cs.take (xs'.length * sz) = flat xs' → Q' (.osl h.length 0 xs'.length c) (h ++ [.row e (c * sz) cs])) → S (.osl h.length 0 xs.length c :: bs) (h ++ [.row e (c * sz) (flat xs)]) Q')
   (hk : K (.own true e sz xs') s h) : callI f R bs s h (some k0) K (.own true e sz xs) := by
 refine callI_intro _ _ _ hT (fun hx => ?_) fun c h1 h2 => ?_
 · obtain ⟨q1, q2⟩ := hn hx
   refine q2 _ ⟨rfl, ?_⟩
   rw [q1] at hk
   exact hk
 · refine hb c h1 _ fun cs hcs => ⟨cs, rfl, xs', hsub, rfl, rfl, rfl, rfl, hcs, hk⟩
theorem callI_tup {S : Vm.Spec} {f : FuncId} {R : Option Vm.Spec} {bs : List AV} {k0 e sz : Nat} {xs : List AV} {s : Slots} {h : Heap} {K : AV → Slots → Heap → Prop} (P : List AV → Prop) (hT : R = some S) (hP : ∀ xs', P xs' → (∀ x ∈ xs', x ∈ xs) ∧ xs'.length = xs.length)
   (hn : xs = [] → P [] ∧ ∀ Q' : AV → Heap → Prop, Q' (.tup []) h → S (.v (.slice none 0 0) :: bs) h Q')
   (hb : ∀ c, xs.length ≤ c → ∀ Q' : AV → Heap → Prop, (∀ xs' cs, P xs' → cs.take (xs'.length * sz) = flat xs' → Q' (.tup []) (h ++ [.row e (c * sz) cs])) → S (.osl h.length 0 xs.length c :: bs) (h ++ [.row e (c * sz) (flat xs)]) Q')
   (hk : ∀ xs', P xs' → K (.tup []) (Vm.set s k0 (.own true e sz xs')) h) : callI f R bs s h (some k0) K (.own true e sz xs) := by
 refine callI_intro _ _ _ hT (fun hx => ?_) fun c h1 h2 => ?_
 · obtain ⟨q1, q2⟩ := hn hx
   exact q2 _ ⟨rfl, hk [] q1⟩
 · refine hb c h1 _ fun xs' cs hp hcs => ⟨cs, rfl, xs', (hP xs' hp).1, (hP xs' hp).2, ?_, hk xs' hp⟩
   rw [← (hP xs' hp).2]; exact hcs
def scanSpec : Vm.Spec := fun args h Q => ∃ (V : VId) (f : Fun) (pre : List UInt8), args = [.ptr V.iv 0, .sl 1 (pre.map encB)] ∧ pre.length ≤ 4611686018427387904 ∧ isView h V f ∧ f.n ≤ 536870912 ∧
 ∀ l h', ScanIs f pre l → l.length ≤ 2 * f.n → isView h' V f → Same h h' [] → Q (.own true 132 2 (l.map kvAv)) h'
theorem does_scan : Does Tryz.prog 51 scanSpec := by
 refine dA (good_cons does_vready (good_cons does_base (good_cons does_del (good_cons does_hasPrefix (good_cons does_cloneW (good_cons does_sort good_nil)))))) Tryz.func51 rfl (by decide +kernel) ?_
 rintro args h Q ⟨V, f, pre, rfl, hpl, hV, hfn, hq⟩
 refine ⟨by simp [Tryz.f51], ?_⟩
 have hV0 := hV
 obtain ⟨chg, clk, mem, clk2, h1, h2, h3, h4, h5, h6, h7, hlen, hk32⟩ := hV
 simp -dsimp only [Vm.E, zA, zB, zC, zD, zE, zG, zH, of24]
 refine call_one (S := vreadySpec) rfl _ GaL.rfl ⟨V.iv, V.ic, _, rfl, h1, ?_⟩
 simp -dsimp only [Vm.E, zA, zB, zC, zD, zE, zG, zH, of24, fo69_3, h1, of32, bne_self_eq_false]
 refine call_one (S := baseSpec) rfl _ GaL.rfl ⟨V.iv, V.ic, V.im, mem, clk2, pre, rfl, hpl, h1, h3, h5.2, h6.2, by omega, fun e he => hk32 e (.inr he), fun l0 hl0 => ?_⟩
 have hl0n : l0.length ≤ mem.length := by rw [hl0.length_eq, zLa]; exact zTb ..
 simp -dsimp only [Vm.E, zA, zB, zC, zD, zE, zG, zH, awpOp_mf]
 refine call_in _ _ _ ?_
 simp -dsimp only [Vm.E, zA, zB, zC, zD, zE, zG, zH, callI_eq, ownSl_own, ownSl_alias]
 have hsame := Same.more h [AObj.cells [.ptr V.iv 0]]
 have hV1 := hV0.more [AObj.cells [.ptr V.iv 0]]
 have g0 := heap_last h (AObj.cells [.ptr V.iv 0])
 have g1 := heap_get [AObj.cells [.ptr V.iv 0]] h1
 have g2 := heap_get [AObj.cells [.ptr V.iv 0]] h2
 have g3 := heap_get [AObj.cells [.ptr V.iv 0]] h3
 have hbase : ∀ r, heap_get r g1 = heap_get r g1 := fun _ => rfl
 generalize h ++ [AObj.cells [AV.ptr V.iv 0]] = hh at *
 have hpr : ∀ x ∈ l0.map kvAv, isPr x := fun x hx => by obtain ⟨p, -, rfl⟩ := zQa.1 hx; exact kvAv_pr p
 refine callI_ret (S := orS (delPSpec askT) delPNilSpec) (xs' := stay (askP chg) (l0.map kvAv)) rfl (fun x hx => (zVa.1 hx).1) (fun hx => ⟨by rw [hx]; rfl, fun Q' hq' => .inr ⟨_, _, rfl, hq'⟩⟩)
   (fun c hc Q' hq' => .inl ⟨128, [.ptr h.length 0], askSpec, askP chg, l0.map kvAv, hh, c, 132, rfl, rfl, rfl, hc, hpr, by rw [zLa]; omega, fun cs x hx Q2 hq2 => ?_, hq'⟩) ?_
 · obtain ⟨p, -, rfl⟩ := zQa.1 hx
   rw [askP_kv] at hq2
   exact ⟨p.1, .sl 1 (p.2.map encB), h.length, V.iv, V.ic, V.im, chg, clk, rfl, rfl, rfl, rfl, heap_get _ g0, heap_get _ g1, heap_get _ g2, h5.1, hq2⟩
 rw [stay_kv]
 have hl1 : (l0.filter fun p => !(mget (strK p.1) chg).isSome).length ≤ l0.length := zTb ..
 simp -dsimp only [Vm.E, zA, zB, zC, zD, zE, zG, zH, g0, g1, of24, fo69_3, fo69_0, of32, of65, bne_self_eq_false]
 refine range_intro mt65 chg clk g2 ?_
 simp -dsimp only [Vm.E, zA, zB, zC, zD, zE, zG, zH]
 refine awp_loop (fun m s h' => ∃ done : List Ent, m = (leftE chg (done.map (·.born))).length ∧ done.length + m ≤ chg.length ∧ h' = hh ∧ (∀ d ∈ done, d ∈ chg) ∧ (done.map (·.born)).Nodup ∧
     s = mk [(1, .sl 1 (pre.map encB)), (5, .own true 132 2 ((scanL chg pre l0 done).map kvAv)), (32, .iter V.ic clk (done.map (·.born)) clk)])
   chg.length _ (le_mk _ ?_) ⟨[], (congrArg List.length (zXb.2 fun _ _ => rfl)).symm, by simp, rfl, by simp, by simp, rfl⟩ ?_
 · simp only [Vm.D, scanL, zWb, zSb, zXa]
   simp -dsimp only [Vm.E, zA, zB, zC, zD, zE, zG, zH]
   exact ⟨.refl _, .refl _, .refl _⟩
 · rintro m s h' ⟨done, rfl, hlen2, rfl, hd, hdn, rfl⟩
   simp -dsimp only [Vm.E, zA, zB, zC, zD, zE, zG, zH]
   refine next_intro chg clk g2 (fun e he => h6.1.2 e he) (zRa _) (fun hl => ?_) (fun e he => ?_)
   · simp -dsimp only [Vm.E, zA, zB, zC, zD, zE, zG, zH]
     refine call_in _ _ _ ?_
     simp -dsimp only [Vm.E, zA, zB, zC, zD, zE, zG, zH, callI_eq, ownSl_own, ownSl_alias]
     have hD : done.Perm chg := seen_all h6.1.1.1 hd hdn hl
     have hnd := scan_keys h5.1 h6.1 h6.2 hl0 hD
     have hsl : (scanL chg pre l0 done).length ≤ l0.length + done.length := by
       unfold scanL; rw [zNa, zLa]
       have hfl : (done.filter fun e => !goneC e && pre.isPrefixOf (kOf e)).length ≤ done.length := zTb ..
       omega
     refine callI_tup (S := orS sortPSpec sortPNilSpec) (fun xs' => ∃ l' : List KV, xs' = l'.map kvAv ∧ l'.Perm (scanL chg pre l0 done) ∧ l'.Pairwise keyLt) rfl
       (fun xs' hx => ?_) (fun hx => ⟨?_, fun Q' hq' => .inr ⟨_, rfl, hq'⟩⟩) (fun c hc Q' hq' => .inl ⟨scanL chg pre l0 done, h', c, 132, by rw [zLa], rfl, hnd, by omega, by rw [zLa] at hc; exact hc, fun l' hp hs => hq' _ _ ⟨l', rfl, hp, hs⟩ ?_⟩) (fun xs' hx => ?_)
     · obtain ⟨l', rfl, hp, hs⟩ := hx
       exact ⟨fun x hx => (hp.map kvAv).mem_iff.1 hx, by rw [zLa, zLa, hp.length_eq]⟩
     · have hnil : scanL chg pre l0 done = [] := List.map_eq_nil_iff.1 hx
       exact ⟨[], rfl, by rw [hnil], .nil⟩
     · rw [zIa]
       rw [flat_length (sz := 2) (fun x hx => by obtain ⟨p, -, rfl⟩ := zQa.1 hx; rfl)]
       exact zRa _
     · obtain ⟨l', rfl, hp, hs⟩ := hx
       simp -dsimp only [Vm.E, zA, zB, zC, zD, zE, zG, zH, Tryz.results51]
       exact hq l' h' (scan_law h5.1 h5.2 h6.1 h6.2 h7 hl0 hD hp hs) (by have := hp.length_eq; omega) hV1 hsame
   · obtain ⟨hem, heb⟩ := left_mem he
     obtain ⟨⟨k, hk⟩, x, l, b, hx, hl, hev⟩ := h5.1 e hem
     obtain ⟨hd2, hdn2⟩ := done_more he hd hdn
     have hless := left_less he
     have hkk := kOf_eq hk
     have hbv := bytesOf_isB hx
     have hfl : (done.filter fun e => !goneC e && pre.isPrefixOf (kOf e)).length ≤ done.length := zTb ..
     have emap : (done ++ [e]).map (·.born) = done.map (·.born) ++ [e.born] := by simp
     have hgn : goneC e = b := by unfold goneC; rw [hev]
     have hkv : kvC e = (k, l) := by unfold kvC valC; rw [hev, hkk]; simp only [hbv]
     have ef : scanL chg pre l0 (done ++ [e]) = scanL chg pre l0 done ++ if !b && pre.isPrefixOf k then [(k, l)] else [] := by
       unfold scanL
       rw [zRb, zYb, zWb, hkk, hgn, zWa, ← List.append_assoc]
       congr 1
       split <;> simp [hkv]
     simp -dsimp only [Vm.E, zA, zB, zC, zD, zE, zG, zH]
     refine entry_intro chg clk e g2 (find_born h6.1.1.1 hem) ?_
     simp only [key_string hk, hev]
     have hg := hx.ga
     have hkl : k.length ≤ 32 := by have := hk32 e (.inl hem); rw [hkk] at this; exact this
     have hks : (ByteArray.mk k.toArray).size ≤ maxLen := by
       have : (ByteArray.mk k.toArray).size = k.length := by simp [ByteArray.size]
       rw [this]; unfold maxLen; omega
     have hkd : (ByteArray.mk k.toArray).data.toList = k := by simp
     have hsl : (scanL chg pre l0 done).length ≤ l0.length + done.length := by
       unfold scanL; rw [zNa, zLa]; omega
     cases b
     · have e2 : ∀ b, pre.isPrefixOf k = b → scanL chg pre l0 (done ++ [e]) = scanL chg pre l0 done ++ if b then [(k, l)] else [] := fun b hb => by rw [ef, hb]; rfl
       generalize hL : l = L at hg hl ef e2
       rcases hx with rfl | ⟨rfl, rfl⟩
       all_goals
         simp -dsimp only [Vm.G, zA, zB, zC, zD, zE, zF, al137, sz137, of137, fo137_1, fo137_0, of4, of123]
         refine cvX_bytes bt123 Tryz.underlying9 hks ?_
         simp -dsimp only [Vm.E, zA, zB, zC, zD, zE, zG, zH, hkd]
         refine call_one (S := prefixSpec) rfl _ GaL.rfl ⟨k, pre, by omega, hpl, rfl, ?_⟩
         cases hp : pre.isPrefixOf k
         · simp -dsimp only [Vm.E, zA, zB, zC, zD, zE, zG, zH]
           have e2 := e2 false hp
           simp only [zYa, if_false, zXa] at e2
           refine kept_intro ⟨_, hless, _, le_mk [(1, .sl 1 (pre.map encB)), (5, .own true 132 2 ((scanL chg pre l0 (done ++ [e])).map kvAv)), (32, .iter V.ic clk ((done ++ [e]).map (·.born)) clk)] ?_,
             done ++ [e], by rw [emap], by rw [zNa]; simp only [zKa, zMa]; omega, rfl, hd2, hdn2, rfl⟩
           simp only [Vm.D, e2, emap, zWa, zUa, zSb, zXa]
           simp -dsimp only [Vm.E, zA, zB, zC, zD, zE, zG, zH]
           exact ⟨.refl _, .refl _, .refl _⟩
         · have e2 := e2 true hp
           simp only [if_true] at e2
           simp -dsimp only [Vm.G, zA, zB, zC, zD, zE, zF, al137, sz137, of137, fo137_1, fo137_0, of4, of123]
           refine cvX_bytes bt123 Tryz.underlying9 hks ?_
           simp -dsimp only [Vm.E, zA, zB, zC, zD, zE, zG, zH, hkd, Vm.S, Nat.reduceLeDiff, al137, sz137, of137, fo137_1, fo137_0, of4, of123]
           refine call_one (S := cloneWSpec) rfl _ (GaL.cons hg .nil) ⟨L, by omega, rfl, ?_, ?_⟩
           all_goals
             simp -dsimp only [Vm.G, zA, zB, zC, zD, zE, zF, bd132, es60]
             refine bs_intro zr132 (by decide) (by decide) rfl rfl (by simp [solid, AV.cells]) ?_
             simp -dsimp only [Vm.E, zA, zB, zC, zD, zE, zG, zH, append_own ei60]
             refine app_sl Tryz.underlying60 (by simp [AV.cells]) (by simp only [zLa, zKa, zMa]; omega) ?_
             simp -dsimp only [Vm.E, zA, zB, zC, zD, zE, zG, zH]
             refine kept_intro ⟨_, hless, _, le_mk [(1, .sl 1 (pre.map encB)), (5, .own true 132 2 ((scanL chg pre l0 (done ++ [e])).map kvAv)), (32, .iter V.ic clk ((done ++ [e]).map (·.born)) clk)] ?_,
               done ++ [e], by rw [emap], by rw [zNa]; simp only [zKa, zMa]; omega, rfl, hd2, hdn2, rfl⟩
             simp only [Vm.D, e2, emap, zWa, zUa, zSb]
             simp -dsimp only [Vm.E, zA, zB, zC, zD, zE, zG, zH]
             exact ⟨.refl _, .refl _, .refl _⟩
     · have e2 : scanL chg pre l0 (done ++ [e]) = scanL chg pre l0 done := by rw [ef]; simp
       rcases hx with rfl | ⟨rfl, rfl⟩
       all_goals
         simp -dsimp only [Vm.G, zA, zB, zC, zD, zE, zF, al137, sz137, of137, fo137_1, fo137_0, of4, of123]
         refine kept_intro ⟨_, hless, _, le_mk [(1, .sl 1 (pre.map encB)), (5, .own true 132 2 ((scanL chg pre l0 (done ++ [e])).map kvAv)), (32, .iter V.ic clk ((done ++ [e]).map (·.born)) clk)] ?_,
           done ++ [e], by rw [emap], by rw [zNa]; simp only [zKa, zMa]; omega, rfl, hd2, hdn2, rfl⟩
         simp only [Vm.D, e2, emap, zWa, zUa, zSb, zXa]
         simp -dsimp only [Vm.E, zA, zB, zC, zD, zE, zG, zH]
         exact ⟨.refl _, .refl _, .refl _⟩
def yrK (n : Int) : List UInt8 := keyOf 89 [n]
theorem yrK_length (n : Int) : (yrK n).length = 5 := by simp [yrK, keyOf, packs, be_length]
def yrKeySpec : Vm.Spec := fun args h Q => ∃ iv n, args = [.agg [.ptr iv 0, .v (.int .i64 n)]] ∧ Q (.own true 5 1 ((yrK n).map encB)) h
theorem does_yrKey : Does Tryz.prog 139 yrKeySpec := by
 refine dA (good_cons does_key good_nil) Tryz.func139 rfl (by decide +kernel) ?_
 rintro args h Q ⟨iv, n, rfl, hq⟩
 refine ⟨by simp [Tryz.f139], ?_⟩
 simp -dsimp only [Vm.G, zA, zB, zC, zD, zE, zF, fo111_1, of3, es120]
 refine bs_intro zr3 (by decide) (by decide) rfl rfl (by simp [solid, AV.cells]) ?_
 simp -dsimp only [Vm.E, zA, zB, zC, zD, zE, zG, zH]
 refine call_one (S := keySpec) rfl _ GaL.rfl ⟨89, [n], by simp, rfl, ?_⟩
 simp -dsimp only [Vm.E, zA, zB, zC, zD, zE, zG, zH, Tryz.results139]
 exact hq
def stateOf (f : Fun) (n : Int) : Int := if readOf f (yrK n) = 1 ∨ readOf f (yrK n) = 2 then readOf f (yrK n) else 0
def yrStateSpec : Vm.Spec := fun args h Q => ∃ V f n, args = [.agg [.ptr V.iv 0, .v (.int .i64 n)]] ∧ isView h V f ∧ Q (.v (.int .i64 (stateOf f n))) h
theorem does_yrState : Does Tryz.prog 59 yrStateSpec := by
 refine dA (good_cons does_yrKey (good_cons does_vgetW (good_cons does_unpack good_nil))) Tryz.func59 rfl (by decide +kernel) ?_
 rintro args h Q ⟨V, f, n, rfl, hV, hq⟩
 refine ⟨by simp [Tryz.f59], ?_⟩
 have hlen := fun l => hV.len (yrK n) l
 unfold stateOf at hq
 simp -dsimp only [Vm.G, zA, zB, zC, zD, zE, zF]
 refine draw_pub [1] (.take 0 (.take 1 (.take 2 (.alt 3 (.alt 4 (.take 5 (.take 6 (.take 7 (.alt 8 (.alt 9 (.done) .stop) .stop)))) .stop) .stop)))) (by kernel_rfl) (by kernel_rfl) (by kernel_rfl) (by decide) ?_
 simp -dsimp only [Vm.G, zA, zB, zC, zD, zE, zF, fo111_0, of24, of111]
 refine call_one (S := yrKeySpec) rfl _ GaL.rfl ⟨V.iv, n, rfl, ?_⟩
 simp -dsimp only [Vm.G, zA, zB, zC, zD, zE, zF]
 refine call_one (S := vgetWSpec) rfl _ GaL.rfl ⟨V, f, yrK n, rfl, hV, fun l hf => ?_, fun hf => ?_⟩
 · have hl := hlen l hf
   have er : readOf f (yrK n) = if l.length = 8 then num8 l 0 else 0 := by unfold readOf; rw [hf]
   rw [er] at hq
   clear er
   obtain ⟨x, hx⟩ : ∃ x, num8 l 0 = x := ⟨_, rfl⟩
   rw [hx] at hq
   simp -dsimp only [Vm.E, zA, zB, zC, zD, zE, zG, zH]
   refine call_one (S := unpackSpec) rfl _ GaL.rfl ⟨l, 1, by omega, by unfold I64; omega, rfl, ?_⟩
   unfold unpackRes
   by_cases h8 : l.length = 8
   · rw [if_pos h8] at hq
     rw [if_neg (by omega), if_neg (by simp [h8])]
     simp -dsimp only [Vm.E, zA, zB, zC, zD, zE, zG, zH, bne_self_eq_false, es120, as120]
     refine idx_ints (numsOf l 1) 0 (by simp [numsOf]) ?_
     have e0 : (numsOf l 1)[0]'(by simp [numsOf]) = x := by rw [← hx]; simp [numsOf]
     simp -dsimp only [Vm.E, zA, zB, zC, zD, zE, zG, zH, of3, e0]
     cases c1 : (x == 1)
     · have d1 : ¬ x = 1 := by simpa using c1
       simp -dsimp only [Vm.E, zA, zB, zC, zD, zE, zG, zH]
       cases c2 : (x == 2)
       · have d2 : ¬ x = 2 := by simpa using c2
         rw [if_neg (by simp [d1, d2])] at hq
         simp -dsimp only [Vm.E, zA, zB, zC, zD, zE, zG, zH, Tryz.results59]
         exact hq
       · have d2 : x = 2 := by simpa using c2
         rw [if_pos (.inr d2)] at hq
         simp -dsimp only [Vm.E, zA, zB, zC, zD, zE, zG, zH, es120, as120]
         refine idx_ints (numsOf l 1) 0 (by simp [numsOf]) ?_
         simp -dsimp only [Vm.E, zA, zB, zC, zD, zE, zG, zH, of3, e0, Tryz.results59]
         exact hq
     · have d1 : x = 1 := by simpa using c1
       rw [if_pos (.inl d1)] at hq
       simp -dsimp only [Vm.E, zA, zB, zC, zD, zE, zG, zH, es120, as120]
       refine idx_ints (numsOf l 1) 0 (by simp [numsOf]) ?_
       simp -dsimp only [Vm.E, zA, zB, zC, zD, zE, zG, zH, of3, e0, Tryz.results59]
       exact hq
   · rw [if_neg h8] at hq
     rw [if_neg (by omega), if_pos (by omega)]
     simp -dsimp only [Vm.E, zA, zB, zC, zD, zE, zG, zH, Tryz.results59]
     exact hq
 · have er : readOf f (yrK n) = 0 := by unfold readOf; rw [hf]
   rw [er] at hq
   simp -dsimp only [Vm.E, zA, zB, zC, zD, zE, zG, zH]
   refine call_one (S := unpackSpec) rfl _ GaL.rfl ⟨[], 1, by simp, by unfold I64; omega, rfl, ?_⟩
   unfold unpackRes
   rw [if_neg (by omega), if_pos (by simp)]
   simp -dsimp only [Vm.E, zA, zB, zC, zD, zE, zG, zH, Tryz.results59]
   exact hq
def yrTurn (f : Fun) (n st : Int) : Fun := upd f (yrK n) (some (be 8 st))
theorem right_yr (n st : Int) : rightKV (yrK n) (be 8 st) = true := by simp [rightKV, yrK_length, be_length]
def yrTurnSpec : Vm.Spec := fun args h Q => ∃ V f n st, args = [.agg [.ptr V.iv 0, .v (.int .i64 n)], .v (.int .i64 st)] ∧ I64 st ∧ isView h V f ∧ ∀ h', isView h' V (yrTurn f n st) → Same h h' [V.ic] → Q (.v (.int .i64 0)) h'
theorem does_yrTurn : Does Tryz.prog 60 yrTurnSpec := by
 refine dA (good_cons does_yrKey (good_cons does_pack (good_cons does_vput good_nil))) Tryz.func60 rfl (by decide +kernel) ?_
 rintro args h Q ⟨V, f, n, st, rfl, hst, hV, hq⟩
 refine ⟨by simp [Tryz.f60], ?_⟩
 simp -dsimp only [Vm.G, zA, zB, zC, zD, zE, zF]
 refine draw_cont [2] (.take 0 (.take 1 (.take 2 (.take 4 (.alt 3 (.alt 5 (.alt 6 (.alt 7 (.alt 8 (.done) .stop) .stop) .stop) .stop) (.alt 5 (.alt 3 (.alt 6 (.alt 7 (.alt 8 (.done) .stop) .stop) .stop) .stop) (.stop))))))) (fun s h' => isView h' V (yrTurn f n st) ∧ Same h h' [V.ic] ∧ s 4 = .v (.int .i64 0)) (by kernel_rfl) (by kernel_rfl) (by kernel_rfl) (by decide) ?_ ?_
 · simp -dsimp only [Vm.G, zA, zB, zC, zD, zE, zF, fo111_0, of24, of111]
   refine tree_alt ?_ (tree_alt ?_ trivial)
   · simp -dsimp only [Vm.G, zA, zB, zC, zD, zE, zF, es120]
     refine call_one (S := yrKeySpec) rfl _ GaL.rfl ⟨V.iv, n, rfl, ?_⟩
     simp -dsimp only [Vm.G, zA, zB, zC, zD, zE, zF, es120]
     refine bs_intro zr3 (by decide) (by decide) rfl rfl (by simp [solid, AV.cells]) ?_
     simp -dsimp only [Vm.G, zA, zB, zC, zD, zE, zF, es120]
     refine call_one (S := packSpec) rfl _ GaL.rfl ⟨[st], by simp, by simpa using hst, rfl, ?_⟩
     simp only [packOf_one]
     simp -dsimp only [Vm.G, zA, zB, zC, zD, zE, zF, es120]
     refine call_one (S := vputSpec) rfl _ GaL.rfl ⟨V, f, yrK n, be 8 st, rfl, hV, fun _ h' g1 g2 => ?_, fun hc => by rw [right_yr] at hc; cases hc⟩
     simp -dsimp only [Vm.G, zA, zB, zC, zD, zE, zF, es120]
     exact ⟨g1, g2, trivial⟩
   · simp -dsimp only [Vm.G, zA, zB, zC, zD, zE, zF, es120]
     refine bs_intro zr3 (by decide) (by decide) rfl rfl (by simp [solid, AV.cells]) ?_
     simp -dsimp only [Vm.G, zA, zB, zC, zD, zE, zF, es120]
     refine call_one (S := yrKeySpec) rfl _ GaL.rfl ⟨V.iv, n, rfl, ?_⟩
     simp -dsimp only [Vm.G, zA, zB, zC, zD, zE, zF, es120]
     refine call_one (S := packSpec) rfl _ GaL.rfl ⟨[st], by simp, by simpa using hst, rfl, ?_⟩
     simp only [packOf_one]
     simp -dsimp only [Vm.G, zA, zB, zC, zD, zE, zF, es120]
     refine call_one (S := vputSpec) rfl _ GaL.rfl ⟨V, f, yrK n, be 8 st, rfl, hV, fun _ h' g1 g2 => ?_, fun hc => by rw [right_yr] at hc; cases hc⟩
     simp -dsimp only [Vm.G, zA, zB, zC, zD, zE, zF, es120]
     exact ⟨g1, g2, trivial⟩
 · rintro s h' ⟨g1, g2, g3⟩
   simp -dsimp only [Vm.E, zA, zB, zC, zD, zE, zG, zH, g3, Tryz.results60]
   exact hq h' g1 g2
def rightY (n : Int) : Bool := decide (2000 ≤ n) && decide (n ≤ 2099)
def yrRightSpec : Vm.Spec := fun args h Q => ∃ n, args = [.v (.int .i64 n)] ∧ Q (.v (.bool (rightY n))) h
theorem does_yrRight : Does Tryz.prog 58 yrRightSpec := by
 refine dA good_nil Tryz.func58 rfl (by decide +kernel) ?_
 rintro args h Q ⟨n, rfl, hq⟩
 refine ⟨by simp [Tryz.f58], ?_⟩
 unfold rightY at hq
 simp -dsimp only [Vm.E, zA, zB, zC, zD, zE, zG, zH]
 cases c1 : decide (2000 ≤ n)
 · rw [c1] at hq
   simp -dsimp only [Vm.E, zA, zB, zC, zD, zE, zG, zH, Tryz.results58]
   exact hq
 · rw [c1] at hq
   simp -dsimp only [Vm.E, zA, zB, zC, zD, zE, zG, zH, Tryz.results58]
   exact hq
def yStateSpec : Vm.Spec := fun args h Q => ∃ V f n, args = [.ptr V.iv 0, .v (.int .i64 n)] ∧ isView h V f ∧ Q (.v (.int .i64 (stateOf f n))) h
theorem does_yState : Does Tryz.prog 134 yStateSpec := by
 refine dA (good_cons does_yrState good_nil) Tryz.func134 rfl (by decide +kernel) ?_
 rintro args h Q ⟨V, f, n, rfl, hV, hq⟩
 refine ⟨by simp [Tryz.f134], ?_⟩
 simp -dsimp only [Vm.G, zA, zB, zC, zD, zE, zF, bd111]
 refine call_one (S := yrStateSpec) rfl _ GaL.rfl ⟨V, f, n, rfl, hV, ?_⟩
 simp -dsimp only [Vm.E, zA, zB, zC, zD, zE, zG, zH, Tryz.results134]
 exact hq
theorem stateOf_cases (f : Fun) (n : Int) : stateOf f n = 0 ∨ stateOf f n = 1 ∨ stateOf f n = 2 := by unfold stateOf; split <;> omega
def openOf (f : Fun) (n : Int) : Fun × Int := if rightY n then if stateOf f n = 0 then (yrTurn f n 1, 0) else (f, 8) else (f, 1)
def yOpenSpec : Vm.Spec := fun args h Q => ∃ V f n, args = [.ptr V.iv 0, .v (.int .i64 n)] ∧ isView h V f ∧ ∀ h', isView h' V (openOf f n).1 → Same h h' [V.ic] → Q (.v (.int .i64 (openOf f n).2)) h'
theorem does_yOpen : Does Tryz.prog 22 yOpenSpec := by
 refine dA (good_cons does_yrRight (good_cons does_yrState (good_cons does_yrTurn good_nil))) Tryz.func22 rfl (by decide +kernel) ?_
 rintro args h Q ⟨V, f, n, rfl, hV, hq⟩
 refine ⟨by simp [Tryz.f22], ?_⟩
 unfold openOf at hq
 simp -dsimp only [Vm.G, zA, zB, zC, zD, zE, zF, bd111, al111, sz111]
 refine call_one (S := yrRightSpec) rfl _ GaL.rfl ⟨n, rfl, ?_⟩
 cases c1 : rightY n
 · rw [c1] at hq
   simp -dsimp only [Vm.E, zA, zB, zC, zD, zE, zG, zH, Tryz.results22]
   exact hq h hV (.refl _ _)
 · rw [c1] at hq
   simp -dsimp only [Vm.G, zA, zB, zC, zD, zE, zF, of111]
   refine call_one (S := yrStateSpec) rfl _ GaL.rfl ⟨V, f, n, rfl, hV, ?_⟩
   simp -dsimp only [Vm.E, zA, zB, zC, zD, zE, zG, zH]
   cases c2 : (stateOf f n != 0)
   · have d2 : stateOf f n = 0 := by simpa using c2
     rw [if_pos rfl, if_pos d2] at hq
     simp -dsimp only [Vm.G, zA, zB, zC, zD, zE, zF, of111]
     refine call_one (S := yrTurnSpec) rfl _ GaL.rfl ⟨V, f, n, 1, rfl, by unfold I64; omega, hV, fun h' g1 g2 => ?_⟩
     simp -dsimp only [Vm.E, zA, zB, zC, zD, zE, zG, zH, Tryz.results22]
     exact hq h' g1 g2
   · have d2 : ¬ stateOf f n = 0 := by simpa using c2
     rw [if_pos rfl, if_neg d2] at hq
     simp -dsimp only [Vm.E, zA, zB, zC, zD, zE, zG, zH, Tryz.results22]
     exact hq h hV (.refl _ _)
def checkY (f : Fun) (n : Int) : Int := if stateOf f n = 1 then 0 else if stateOf f n = 2 then 13 else 7
def yCheckSpec : Vm.Spec := fun args h Q => ∃ V f n, args = [.ptr V.iv 0, .v (.int .i64 n)] ∧ isView h V f ∧ Q (.v (.int .i64 (checkY f n))) h
theorem does_yCheck : Does Tryz.prog 53 yCheckSpec := by
 refine dA (good_cons does_yState good_nil) Tryz.func53 rfl (by decide +kernel) ?_
 rintro args h Q ⟨V, f, n, rfl, hV, hq⟩
 refine ⟨by simp [Tryz.f53], ?_⟩
 unfold checkY at hq
 simp -dsimp only [Vm.G, zA, zB, zC, zD, zE, zF]
 refine call_one (S := yStateSpec) rfl _ GaL.rfl ⟨V, f, n, rfl, hV, ?_⟩
 rcases stateOf_cases f n with e | e | e <;> rw [e] at hq ⊢ <;> simp -dsimp only [Vm.E, zA, zB, zC, zD, zE, zG, zH, Tryz.results53] <;> exact hq
end Go.Proofs.Lx
namespace Go.Proofs.Lx
open Go.Vm
theorem getOf_be4 (n : Int) (h0 : 0 ≤ n) (h1 : n ≤ 4294967295) : (getOf (be 4 n)).toInt = n := by
 have hb : be 4 n = [byteOf n 3, byteOf n 2, byteOf n 1, byteOf n 0] := rfl
 have b3 := byteOf_nat n 3; have b2 := byteOf_nat n 2; have b1 := byteOf_nat n 1; have b0 := byteOf_nat n 0
 simp only [Nat.reduceMul, Int.reducePow] at b3 b2 b1 b0
 have e : (getOf (be 4 n)).toNat = n.toNat := by
   rw [hb]
   simp only [getOf, List.foldl_cons, List.foldl_nil]
   have z : (0#64).toNat = 0 := rfl
   have s1 := getStep_nat 0#64 (byteOf n 3) (by rw [z]; omega)
   have e1 : (getStep 0#64 (byteOf n 3)).toNat = n.toNat / 16777216 := by rw [s1, z]; omega
   generalize getStep 0#64 (byteOf n 3) = x1 at e1 ⊢
   have e2 : (getStep x1 (byteOf n 2)).toNat = n.toNat / 65536 := by rw [getStep_nat _ _ (by omega), e1]; omega
   generalize getStep x1 (byteOf n 2) = x2 at e2 ⊢
   have e3 : (getStep x2 (byteOf n 1)).toNat = n.toNat / 256 := by rw [getStep_nat _ _ (by omega), e2]; omega
   generalize getStep x2 (byteOf n 1) = x3 at e3 ⊢
   rw [getStep_nat _ _ (by omega), e3]; omega
 rw [BitVec.toInt_eq_toNat_cond, e, if_pos (by omega)]
 omega
theorem num_cons {size : Nat} (g : List UInt8 → Int) (x : Int) (r : List UInt8) (i : Nat) : g (((be size x ++ r).drop (size * (i + 1))).take size) = g ((r.drop (size * i)).take size) := by
 rw [show size * (i + 1) = (be size x).length + size * i by rw [be_length]; rw [Nat.mul_add]; omega, List.drop_append, List.drop_of_length_le (by omega), List.nil_append]
 congr 3
 omega
theorem num_head {size : Nat} (g : List UInt8 → Int) (x : Int) (r : List UInt8) : g (((be size x ++ r).drop (size * 0)).take size) = g (be size x) := by
 rw [Nat.mul_zero, List.drop_zero, List.take_left' (be_length _ _)]
theorem nums_packs {size : Nat} (g : List UInt8 → Int) (l : List Int) (hg : ∀ x ∈ l, g (be size x) = x) : ((List.range l.length).map fun i => g (((packs size l).drop (size * i)).take size)) = l := by
 induction l with
 | nil => rfl
 | cons x l ih =>
   have ih := ih fun y hy => hg y (zNb _ hy)
   rw [zKa, List.range_succ_eq_map, zUa, List.map_map]
   have ep : packs size (x :: l) = be size x ++ packs size l := rfl
   rw [ep]
   congr 1
   · rw [num_head g x]; exact hg x (zIc ..)
   · refine Eq.trans (List.map_congr_left fun i _ => ?_) ih
     exact num_cons g x _ i
theorem numsOf_packs (l : List Int) (hl : ∀ x ∈ l, I64 x) : numsOf (packs 8 l) l.length = l := by
 refine nums_packs (fun b => (getOf b).toInt) l fun x hx => ?_
 have := num8_be x (hl x hx)
 unfold num8 at this
 rw [Nat.mul_zero, List.drop_zero, zIa (by rw [be_length]; exact zRa _)] at this
 exact this
theorem numsK_packs (l : List Int) (hl : ∀ x ∈ l, 0 ≤ x ∧ x ≤ 4294967295) : numsK (packs 4 l) l.length = l :=
 nums_packs (fun b => (getOf b).toInt) l fun x hx => getOf_be4 x (hl x hx).1 (hl x hx).2
theorem splitOf_key (t : UInt8) (l : List Int) (hl : l.length ≤ 7) : splitOf (keyOf t l) = some (t, l.map clampK) := by
 have e : keyOf t l = t :: packs 4 (l.map clampK) := by unfold keyOf; rw [zIa hl]
 rw [e]
 have hp : (packs 4 (l.map clampK)).length = l.length * 4 := by rw [packs_length, zLa]
 simp only [splitOf]
 rw [if_pos (by omega), hp, show l.length * 4 / 4 = (l.map clampK).length by rw [zLa]; omega, numsK_packs]
 intro x hx
 obtain ⟨y, -, rfl⟩ := zQa.1 hx
 exact clampK_range y
theorem key_inj {t t' : UInt8} {l l' : List Int} (hl : l.length ≤ 7) (hl' : l'.length ≤ 7) (h : keyOf t l = keyOf t' l') : t = t' ∧ l.map clampK = l'.map clampK := by
 have := congrArg splitOf h
 rw [splitOf_key t l hl, splitOf_key t' l' hl'] at this
 simpa using this
theorem clampK_id {n : Int} (h0 : 0 ≤ n) (h1 : n ≤ 4294967295) : clampK n = n := by unfold clampK; split <;> split <;> omega
end Go.Proofs.Lx
namespace Go.Proofs.Lx
open Go.Vm
attribute [local irreducible] awpArr awpBin awpMake awpAppend awpCvX awpStrOf awpBinX awpSlice awpBS awpStore awpAlloc awpCopy awpIndex awpDraw awpIdxX awpFa awpField awpLookup awpUpdate awpDelete awpClear awpRange awpNext awpEntry awpBuild awpClearS awpIdxL
theorem isView.klen {h : Heap} {V : VId} {f : Fun} (hV : isView h V f) {k l : List UInt8} (hf : f k = some l) : k.length ≤ 32 := by
 obtain ⟨chg, clk, mem, clk2, h1, h2, h3, h4, h5, h6, h7, h8, hk⟩ := hV
 rw [h7, nowOf] at hf
 split at hf
 · rename_i e he
   obtain ⟨h9, h10⟩ := (mget_iff (fun e he => (h5.1 e he).1) h6.1.1.2).1 he
   rw [← h10]; exact hk e (.inl h9)
 · cases he : mget (strK k) mem with
   | none => rw [he] at hf; cases hf
   | some e =>
     obtain ⟨h9, h10⟩ := (mget_iff (fun e he => (h5.2 e he).1) h6.2.1.2).1 he
     rw [← h10]; exact hk e (.inr h9)
theorem state_new (n : Int) : stateOf noF n = 0 := by unfold stateOf readOf; simp [noF]
theorem idx_map {α : Type} (g : α → AV) (l : List α) (i : Nat) (hi : i < l.length) {e sz : Nat} {K : AV → Prop} (hK : K (.eptr (g l[i]).cells)) : awpIdx (some (e, sz)) (.sl sz (l.map g)) (.v (.int .i64 i)) K := by
 refine idx_intro (xs := l.map g) (by simp [asSl]) (by simp; omega) (fun x hx => ?_)
 have hx' : x = g l[i] := by simp [hi] at hx; exact hx.symm
 subst hx'; exact hK
theorem isA_list {α : Type} {e : Sh} (P : α → Prop) (g : α → AV) (hg : ∀ y, IsA e y → ∃ a, P a ∧ y = g a) {x : AV} (h : IsA (.sl e) x) : ∃ l : List α, l.length ≤ maxLen ∧ x = .sl e.n (l.map g) ∧ ∀ a ∈ l, P a := by
 simp only [IsA] at h
 obtain ⟨xs, hl, rfl, hx⟩ := h
 have : ∃ l : List α, xs = l.map g ∧ ∀ a ∈ l, P a := by
   clear hl
   induction xs with
   | nil => exact ⟨[], rfl, by simp⟩
   | cons y r ih =>
     obtain ⟨l, rfl, hl⟩ := ih fun z hz => hx z (zNb _ hz)
     obtain ⟨a, ha, rfl⟩ := hg y (hx y (zIc ..))
     exact ⟨a :: l, rfl, fun b hb => by
       rcases zLb.1 hb with rfl | hb
       · exact ha
       · exact hl b hb⟩
 obtain ⟨l, rfl, h1⟩ := this
 exact ⟨l, by simpa using hl, rfl, h1⟩
theorem isA_int {x : AV} (h : IsA (.int .i64) x) : ∃ n, I64 n ∧ x = .v (.int .i64 n) := by
 simp only [IsA] at h
 obtain ⟨n, hn, rfl⟩ := h
 refine ⟨n, ?_, rfl⟩
 simp [Lit.wf, IntKind.min, IntKind.max, IntKind.signed, IntKind.bits] at hn
 unfold I64; omega
end Go.Proofs.Lx
