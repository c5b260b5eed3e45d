/- What the functions of the program do: their contracts. -/
import Derived.Test.YthcigkhnedchaaaDoorV2
import Derived.Test.YthcigkhnedchaaaDoorTFs
import Derived.Test.YthcigkhnedchaaaDoorShelfSt
import Derived.Lib.Bytealg
import Derived.Shelf.Strings.Search1
import Derived.Shelf.Strings.Count
import Derived.Test.YthcigkhnedchaaaDoorShelfSb
import Derived.Shelf.Strings.OnBuilder
import Derived.Shelf.Strings.BuilderK
import Derived.Lib.FrozenHead2
import Derived.WalkKit
import Derived.BigCall
import Derived.Lib.Hide
/- Numbers as bytes, and bytes: the program's functions, by their contracts. -/
set_option linter.unusedSimpArgs false
set_option linter.unusedVariables false
namespace Go.Proofs.Lx
open Go.Vm
abbrev Tab := FuncId → Option Vm.Spec
def Good (T : Tab) : Prop := ∀ f S, T f = some S → Does Tryd.prog f S
def tab (l : List (FuncId × Vm.Spec)) : Tab := fun f => l.lookup f
theorem good_nil : Good (tab []) := fun f S h => by cases h
theorem good_cons {l : List (FuncId × Vm.Spec)} {g : FuncId} {S : Vm.Spec} (hd : Does Tryd.prog g S) (h : Good (tab l)) : Good (tab ((g, S) :: l)) := fun f S' hf => by
  unfold tab at hf
  simp only [List.lookup] at hf
  split at hf
  · rename_i e
    have : f = g := by simpa using e
    subst this; cases hf; exact hd
  · exact h f S' hf
attribute [local irreducible] awpMake awpAppend awpCvX awpStrOf awpBinX awpSlice awpBS awpStore awpAlloc awpCopy awpIndex awpDraw awpIdxX awpFa awpField awpLookup awpUpdate awpDelete awpClear awpRange awpNext awpEntry awpBuild
theorem str_eql (P : Program) (t : TypeId) (a b : ByteArray) (KV : Value → Prop) : awpBin P .eql t (.v (.string a)) (.v (.string b)) KV = KV (.bool (a.toList == b.toList)) := id rfl
theorem str_neq (P : Program) (t : TypeId) (a b : ByteArray) (KV : Value → Prop) : awpBin P .neq t (.v (.string a)) (.v (.string b)) KV = KV (.bool (!(a.toList == b.toList))) := id rfl
theorem toList_mk (l : List UInt8) : (ByteArray.mk l.toArray).toList = l := by rw [ByteArray.toList_eq]
end Go.Proofs.Lx
/- Numbers' bytes: the layers field and keys. -/
set_option linter.unusedSimpArgs false
set_option linter.unusedVariables false
namespace Go.Proofs.Lx
open Go.Vm
attribute [local irreducible] awpMake awpAppend awpCvX awpStrOf awpBinX awpSlice awpBS awpStore awpAlloc awpCopy awpIndex awpDraw awpIdxX awpFa awpField awpLookup awpUpdate awpDelete awpClear awpRange awpNext awpEntry awpBuild
def I64 (n : Int) : Prop := -9223372036854775808 ≤ n ∧ n ≤ 9223372036854775807
end Go.Proofs.Lx
/- A view in memory: what it holds, and its calls. -/
set_option linter.unusedSimpArgs false
set_option linter.unusedVariables false
namespace Go.Proofs.Lx
open Go.Vm
attribute [local irreducible] awpMake awpAppend awpCvX awpStrOf awpBinX awpSlice awpBS awpStore awpAlloc awpCopy awpIndex awpDraw awpIdxX awpFa awpField awpLookup awpUpdate awpDelete awpClear awpRange awpNext awpEntry awpBuild
/-- What each key has; how many changes there were at most. -/
structure Fun where
  f : List UInt8 → Option (List UInt8)
  n : Nat
instance : CoeFun Fun fun _ => List UInt8 → Option (List UInt8) := ⟨Fun.f⟩
def Same (h h' : Heap) (fp : List Nat) : Prop := h.length ≤ h'.length ∧ ∀ i, i < h.length → i ∉ fp → h'[i]? = h[i]?
end Go.Proofs.Lx
/- A view in memory: its functions, by their contracts. -/
set_option linter.unusedSimpArgs false
set_option linter.unusedVariables false
namespace Go.Proofs.Lx
open Go.Vm
attribute [local irreducible] awpMake awpAppend awpCvX awpStrOf awpBinX awpSlice awpBS awpStore awpAlloc awpCopy awpIndex awpDraw awpIdxX awpFa awpField awpLookup awpUpdate awpDelete awpClear awpRange awpNext awpEntry awpBuild
theorem Same.refl (h : Heap) (fp : List Nat) : Same h h fp := ⟨Nat.le_refl _, fun _ _ _ => rfl⟩
theorem Same.set (h : Heap) (i : Nat) (x : AObj) : Same h (h.set i x) [i] := ⟨by simp, fun j hj hne => by rw [List.getElem?_set_ne]; simp at hne; omega⟩
end Go.Proofs.Lx
/- Numbers that are given out: seqn. -/
set_option linter.unusedSimpArgs false
set_option linter.unusedVariables false
namespace Go.Proofs.Lx
open Go.Vm
attribute [local irreducible] awpMake awpAppend awpCvX awpStrOf awpBinX awpSlice awpBS awpStore awpAlloc awpCopy awpIndex awpDraw awpIdxX awpFa awpField awpLookup awpUpdate awpDelete awpClear awpRange awpNext awpEntry awpBuild
end Go.Proofs.Lx
/- Numbers are read as they were written. -/
set_option linter.unusedSimpArgs false
set_option linter.unusedVariables false
namespace Go.Proofs.Lx
open Go.Vm
end Go.Proofs.Lx
/- Keys and records: keys.Split, recs. -/
set_option linter.unusedSimpArgs false
set_option linter.unusedVariables false
namespace Go.Proofs.Lx
open Go.Vm
attribute [local irreducible] awpArr awpBin awpMake awpAppend awpCvX awpStrOf awpBinX awpSlice awpBS awpStore awpAlloc awpCopy awpIndex awpDraw awpIdxX awpFa awpField awpLookup awpUpdate awpDelete awpClear awpRange awpNext awpEntry awpBuild
end Go.Proofs.Lx
/- Nodes as records. -/
set_option linter.unusedSimpArgs false
set_option linter.unusedVariables false
namespace Go.Proofs.Lx
open Go.Vm
attribute [local irreducible] awpArr awpBin awpMake awpAppend awpCvX awpStrOf awpBinX awpSlice awpBS awpStore awpAlloc awpCopy awpIndex awpDraw awpIdxX awpFa awpField awpLookup awpUpdate awpDelete awpClear awpRange awpNext awpEntry awpBuild
structure Nd where
  year : Int
  id : Int
  parent : Int
  fund : Int
  obj : Int
  abs : Bool
  limit : Int
  pre : Int
  enc : Int
  exp : Int
  lapsed : Int
  carried : Int
def Nd.zero : Nd := ⟨0, 0, 0, 0, 0, false, 0, 0, 0, 0, 0, 0⟩
def Nd.ok (n : Nd) : Prop := I64 n.year ∧ I64 n.id ∧ I64 n.parent ∧ I64 n.fund ∧ I64 n.obj ∧ I64 n.limit ∧ I64 n.pre ∧ I64 n.enc ∧ I64 n.exp ∧ I64 n.lapsed ∧ I64 n.carried
end Go.Proofs.Lx
/- The tree of nodes, and control: tree, ctrl. -/
set_option linter.unusedSimpArgs false
set_option linter.unusedVariables false
namespace Go.Proofs.Lx
open Go.Vm
attribute [local irreducible] awpArr awpBin awpMake awpAppend awpCvX awpStrOf awpBinX awpSlice awpBS awpStore awpAlloc awpCopy awpIndex awpDraw awpIdxX awpFa awpField awpLookup awpUpdate awpDelete awpClear awpRange awpNext awpEntry awpBuild
end Go.Proofs.Lx
/- Control: ctrl. -/
set_option linter.unusedSimpArgs false
set_option linter.unusedVariables false
namespace Go.Proofs.Lx
open Go.Vm
attribute [local irreducible] awpArr awpBin awpMake awpAppend awpCvX awpStrOf awpBinX awpSlice awpBS awpStore awpAlloc awpCopy awpIndex awpDraw awpIdxX awpFa awpField awpLookup awpUpdate awpDelete awpClear awpRange awpNext awpEntry awpBuild
abbrev w64 (n : Int) : Int := IntKind.i64.wrap n
end Go.Proofs.Lx
/- Control: a charge of a node, and of those above it. -/
set_option linter.unusedSimpArgs false
set_option linter.unusedVariables false
namespace Go.Proofs.Lx
open Go.Vm
attribute [local irreducible] awpArr awpBin awpMake awpAppend awpCvX awpStrOf awpBinX awpSlice awpBS awpStore awpAlloc awpCopy awpIndex awpDraw awpIdxX awpFa awpField awpLookup awpUpdate awpDelete awpClear awpRange awpNext awpEntry awpBuild
theorem w64_range (n : Int) : I64 (w64 n) := by
  unfold I64 w64 IntKind.wrap
  simp [IntKind.bits, IntKind.signed]
  omega
theorem Same.trans {h1 h2 h3 : Heap} {fp : List Nat} (a : Same h1 h2 fp) (b : Same h2 h3 fp) : Same h1 h3 fp :=
  ⟨Nat.le_trans a.1 b.1, fun i hi hn => (b.2 i (Nat.lt_of_lt_of_le hi a.1) hn).trans (a.2 i hi hn)⟩
end Go.Proofs.Lx
/- Numbers as texts, and rows of them: plain laws for CsvParses, CsvBack. -/
set_option linter.unusedSimpArgs false
set_option linter.unusedVariables false
namespace Go.Proofs.Lx
open Go.Vm
def digF : Nat → Nat → List UInt8
  | 0, m => [UInt8.ofNat (48 + m % 10)]
  | k + 1, m => if m < 10 then [UInt8.ofNat (48 + m)] else digF k (m / 10) ++ [UInt8.ofNat (48 + m % 10)]
def digN (m : Nat) : List UInt8 := digF 20 m
def textN (n : Int) : List UInt8 := if n < 0 then 45 :: digN n.natAbs else digN n.natAbs
def isDig (c : UInt8) : Prop := 48 ≤ c.toNat ∧ c.toNat ≤ 57
theorem dig_char {d : Nat} (h : d < 10) : (UInt8.ofNat (48 + d)).toNat = 48 + d := by
  rw [UInt8.toNat_ofNat']; omega
theorem digF_dig : ∀ (k m : Nat), ∀ c ∈ digF k m, isDig c
  | 0, m, c, hc => by
    unfold digF at hc
    rw [List.mem_singleton] at hc; subst hc
    unfold isDig
    rw [dig_char (by omega)]; omega
  | k + 1, m, c, hc => by
    unfold digF at hc
    split at hc
    · rw [List.mem_singleton] at hc; subst hc
      unfold isDig
      rw [dig_char (by omega)]; omega
    · rcases List.mem_append.1 hc with hc | hc
      · exact digF_dig k _ c hc
      · rw [List.mem_singleton] at hc; subst hc
        unfold isDig
        rw [dig_char (by omega)]; omega
theorem digF_pos : ∀ (k m : Nat), 1 ≤ (digF k m).length
  | 0, m => Nat.le_refl _
  | k + 1, m => by
    unfold digF
    split
    · exact Nat.le_refl _
    · rw [List.length_append]; simp
theorem digF_len : ∀ (k j m : Nat), m < 10 ^ (j + 1) → (digF k m).length ≤ j + 1
  | 0, j, m, _ => by unfold digF; simp
  | k + 1, j, m, h => by
    unfold digF
    split
    · simp
    · rename_i h10
      cases j with
      | zero => simp at h; omega
      | succ j =>
        have := digF_len k j (m / 10) (by rw [Nat.pow_succ] at h; omega)
        rw [List.length_append, List.length_singleton]; omega
/-- The number that digits are. -/
def natOf (l : List UInt8) : Nat := l.foldl (fun a c => 10 * a + (c.toNat - 48)) 0
theorem natOf_snoc (l : List UInt8) (c : UInt8) : natOf (l ++ [c]) = 10 * natOf l + (c.toNat - 48) := by
  unfold natOf
  rw [List.foldl_append]; rfl
theorem natOf_digF : ∀ (k m : Nat), m < 10 ^ (k + 1) → natOf (digF k m) = m
  | 0, m, h => by
    unfold digF natOf
    simp only [List.foldl_cons, List.foldl_nil]
    rw [dig_char (by omega)]
    simp at h; omega
  | k + 1, m, h => by
    unfold digF
    split
    · unfold natOf
      simp only [List.foldl_cons, List.foldl_nil]
      rw [dig_char (by omega)]; omega
    · rw [natOf_snoc, natOf_digF k (m / 10) (by rw [Nat.pow_succ] at h; omega), dig_char (by omega)]; omega
theorem natOf_digN {m : Nat} (h : m ≤ 9223372036854775808) : natOf (digN m) = m := natOf_digF 20 m (by omega)
theorem digN_len {m : Nat} (h : m ≤ 9223372036854775808) : (digN m).length ≤ 19 := digF_len 20 18 m (by omega)
/-- The number of a word as the program has it: a byte's distance from '0' is a byte. -/
def stepP (n : Int) (c : UInt8) : Int := w64 (w64 (10 * n) - (c - 48).toNat)
def stepR (n : Int) (c : UInt8) : Int := w64 (w64 (n * 10) - w64 ((c.toNat : Int) - 48))
def numP (w : List UInt8) : Int := match w with
  | 45 :: r => (r.take 19).foldl stepP 0
  | w => w64 (-((w.take 19).foldl stepP 0))
def numR (w : List UInt8) : Int := match w with
  | 45 :: r => if (45 :: r).length ≤ 20 then r.foldl stepR 0 else 0
  | w => w64 (-(if w.length ≤ 20 then w.foldl stepR 0 else 0))
theorem w64_in {n : Int} (h1 : -9223372036854775808 ≤ n) (h2 : n ≤ 9223372036854775807) : w64 n = n := wrap_i64 h1 h2
theorem stepP_dig {n : Nat} {c : UInt8} (hc : isDig c) (h : 10 * n + (c.toNat - 48) ≤ 9223372036854775808) : stepP (-(n : Int)) c = -((10 * n + (c.toNat - 48) : Nat) : Int) := by
  obtain ⟨c1, c2⟩ := hc
  have hs : (c - 48).toNat = c.toNat - 48 := UInt8.toNat_sub_of_le c 48 (by rw [UInt8.le_iff_toNat_le]; exact c1)
  unfold stepP
  rw [hs, w64_in (n := 10 * -(n : Int)) (by omega) (by omega), w64_in (by omega) (by omega)]
  omega
theorem stepR_dig {n : Nat} {c : UInt8} (hc : isDig c) (h : 10 * n + (c.toNat - 48) ≤ 9223372036854775808) : stepR (-(n : Int)) c = -((10 * n + (c.toNat - 48) : Nat) : Int) := by
  obtain ⟨c1, c2⟩ := hc
  unfold stepR
  rw [w64_in (n := -(n : Int) * 10) (by omega) (by omega), w64_in (n := (c.toNat : Int) - 48) (by omega) (by omega), w64_in (by omega) (by omega)]
  omega
theorem fold_dig {step : Int → UInt8 → Int} (hs : ∀ {n : Nat} {c : UInt8}, isDig c → 10 * n + (c.toNat - 48) ≤ 9223372036854775808 → step (-(n : Int)) c = -((10 * n + (c.toNat - 48) : Nat) : Int)) :
    ∀ (l : List UInt8) (a : Nat), (∀ c ∈ l, isDig c) → l.foldl (fun a c => 10 * a + (c.toNat - 48)) a ≤ 9223372036854775808 → l.foldl step (-(a : Int)) = -((l.foldl (fun a c => 10 * a + (c.toNat - 48)) a : Nat) : Int)
  | [], a, _, _ => rfl
  | c :: r, a, hd, h => by
    simp only [List.foldl_cons] at h ⊢
    have mono : ∀ (l : List UInt8) (a : Nat), a ≤ l.foldl (fun a c => 10 * a + (c.toNat - 48)) a := by
      intro l
      induction l with
      | nil => exact fun a => Nat.le_refl a
      | cons c r ih => exact fun a => Nat.le_trans (by omega) (ih (10 * a + (c.toNat - 48)))
    rw [hs (hd c (by simp)) (Nat.le_trans (mono r _) h)]
    exact fold_dig hs r _ (fun c hc => hd c (List.mem_cons_of_mem _ hc)) h
theorem digN_dig (m : Nat) : ∀ c ∈ digN m, isDig c := digF_dig 20 m
theorem digN_head (m : Nat) : ∃ c r, digN m = c :: r ∧ c ≠ 45 := by
  have h1 := digF_pos 20 m
  have h2 := digN_dig m
  unfold digN at h2 ⊢
  cases hd : digF 20 m with
  | nil => rw [hd] at h1; simp at h1
  | cons c r =>
    refine ⟨c, r, rfl, fun e => ?_⟩
    have := h2 c (by rw [hd]; simp)
    rw [e] at this
    exact absurd this.1 (by decide)
theorem numP_text {n : Int} (hn : -9223372036854775808 ≤ n ∧ n ≤ 9223372036854775807) : numP (textN n) = n := by
  have hm : n.natAbs ≤ 9223372036854775808 := by omega
  have hl := digN_len hm
  have hv := natOf_digN hm
  have hf := fold_dig (step := stepP) stepP_dig (digN n.natAbs) 0 (digN_dig _) (by show natOf _ ≤ _; rw [hv]; exact hm)
  have hf : (digN n.natAbs).foldl stepP 0 = -((natOf (digN n.natAbs) : Nat) : Int) := hf
  rw [hv] at hf
  unfold textN
  split
  · unfold numP
    simp only
    rw [List.take_of_length_le hl, hf]; omega
  · obtain ⟨c, r, e, hc⟩ := digN_head n.natAbs
    have : numP (digN n.natAbs) = w64 (-(((digN n.natAbs).take 19).foldl stepP 0)) := by
      rw [e]
      unfold numP
      split
      · rename_i h; exact absurd (List.cons.inj h).1 hc
      · rfl
    rw [this, List.take_of_length_le hl, hf, w64_in (by omega) (by omega)]; omega
theorem numR_text {n : Int} (hn : -9223372036854775808 ≤ n ∧ n ≤ 9223372036854775807) : numR (textN n) = n := by
  have hm : n.natAbs ≤ 9223372036854775808 := by omega
  have hl := digN_len hm
  have hv := natOf_digN hm
  have hf := fold_dig (step := stepR) stepR_dig (digN n.natAbs) 0 (digN_dig _) (by show natOf _ ≤ _; rw [hv]; exact hm)
  have hf : (digN n.natAbs).foldl stepR 0 = -((natOf (digN n.natAbs) : Nat) : Int) := hf
  rw [hv] at hf
  unfold textN
  split
  · unfold numR
    simp only
    rw [if_pos (by rw [List.length_cons]; omega), hf]; omega
  · obtain ⟨c, r, e, hc⟩ := digN_head n.natAbs
    have : numR (digN n.natAbs) = w64 (-(if (digN n.natAbs).length ≤ 20 then (digN n.natAbs).foldl stepR 0 else 0)) := by
      rw [e]
      unfold numR
      split
      · rename_i h; exact absurd (List.cons.inj h).1 hc
      · rfl
    rw [this, if_pos (by omega), hf, w64_in (by omega) (by omega)]; omega
/-- No comma, no end of a line, stands in a number's text. -/
theorem text_free (n : Int) : ∀ c ∈ textN n, c ≠ 44 ∧ c ≠ 10 := fun c hc => by
  have hd : isDig c → c ≠ 44 ∧ c ≠ 10 := fun h => ⟨fun e => by rw [e] at h; exact absurd h.1 (by decide), fun e => by rw [e] at h; exact absurd h.1 (by decide)⟩
  unfold textN at hc
  split at hc
  · rcases List.mem_cons.1 hc with rfl | hc
    · exact ⟨by decide, by decide⟩
    · exact hd (digN_dig _ c hc)
  · exact hd (digN_dig _ c hc)
theorem text_len {n : Int} (hn : -9223372036854775808 ≤ n ∧ n ≤ 9223372036854775807) : 1 ≤ (textN n).length ∧ (textN n).length ≤ 20 := by
  have hm : n.natAbs ≤ 9223372036854775808 := by omega
  have hl := digN_len hm
  have hp := digF_pos 20 n.natAbs
  have hp : 1 ≤ (digN n.natAbs).length := hp
  unfold textN
  split
  · rw [List.length_cons]; omega
  · omega
structure Rw where
  id : Int
  year : Int
  kind : Int
  fund : Int
  obj : Int
  amt : Int
def Rw.nums (r : Rw) : List Int := [r.id, r.year, r.kind, r.fund, r.obj, r.amt]
def Rw.ok (r : Rw) : Prop := I64 r.id ∧ I64 r.year ∧ I64 r.kind ∧ I64 r.fund ∧ I64 r.obj ∧ I64 r.amt
def joinC : List (List UInt8) → List UInt8
  | [] => []
  | [w] => w
  | w :: r => w ++ 44 :: joinC r
def lineR (r : Rw) : List UInt8 := joinC (r.nums.map textN)
/-- Pieces between commas. -/
def splitC : List UInt8 → List (List UInt8)
  | [] => [[]]
  | c :: r => if c = 44 then [] :: splitC r else match splitC r with
    | [] => [[c]]
    | w :: ws => (c :: w) :: ws
theorem splitC_word : ∀ (w s : List UInt8), (∀ c ∈ w, c ≠ 44) → splitC (w ++ 44 :: s) = w :: splitC s
  | [], s, _ => by simp [splitC]
  | c :: r, s, h => by
    have ih := splitC_word r s fun c hc => h c (List.mem_cons_of_mem _ hc)
    rw [List.cons_append]
    conv => lhs; unfold splitC
    rw [if_neg (h c (by simp)), ih]
theorem splitC_last : ∀ (w : List UInt8), (∀ c ∈ w, c ≠ 44) → splitC w = [w]
  | [], _ => rfl
  | c :: r, h => by
    have ih := splitC_last r fun c hc => h c (List.mem_cons_of_mem _ hc)
    unfold splitC
    rw [if_neg (h c (by simp)), ih]
theorem splitC_join : ∀ (ws : List (List UInt8)), ws ≠ [] → (∀ w ∈ ws, ∀ c ∈ w, c ≠ 44) → splitC (joinC ws) = ws
  | [], h, _ => absurd rfl h
  | [w], _, h => splitC_last w (h w (by simp))
  | w :: v :: r, _, h => by
    show splitC (w ++ 44 :: joinC (v :: r)) = _
    rw [splitC_word w _ (h w (by simp)), splitC_join (v :: r) (by simp) fun w hw => h w (List.mem_cons_of_mem _ hw)]
/-- A line's row, as the program reads it. -/
def rowOf : List Int → Rw
  | [a, b, c, d, e, f] => ⟨a, b, c, d, e, f⟩
  | _ => ⟨0, 0, 0, 0, 0, 0⟩
def parseP (s : List UInt8) : Rw × Bool := if (splitC s).length = 6 then (rowOf ((splitC s).map numP), lineR (rowOf ((splitC s).map numP)) == s) else (⟨0, 0, 0, 0, 0, 0⟩, false)
theorem parseP_line {r : Rw} (hr : r.ok) : parseP (lineR r) = (r, true) := by
  obtain ⟨h1, h2, h3, h4, h5, h6⟩ := hr
  have hs : splitC (lineR r) = r.nums.map textN := splitC_join _ (by simp [Rw.nums]) fun w hw c hc => by
    obtain ⟨n, -, rfl⟩ := List.mem_map.1 hw
    exact (text_free n c hc).1
  have hm : (r.nums.map textN).map numP = r.nums := by
    simp only [Rw.nums, List.map_cons, List.map_nil]
    rw [numP_text h1, numP_text h2, numP_text h3, numP_text h4, numP_text h5, numP_text h6]
  unfold parseP
  rw [hs, if_pos (by simp [Rw.nums]), hm]
  have : rowOf r.nums = r := rfl
  rw [this]; simp
theorem parseP_some {s : List UInt8} {r : Rw} (h : parseP s = (r, true)) : lineR r = s := by
  unfold parseP at h
  split at h
  · simp only [Prod.mk.injEq] at h
    rw [h.1] at h
    simpa using h.2
  · simp at h
theorem numP_i64 (w : List UInt8) : I64 (numP w) := by
  have hf : ∀ (l : List UInt8) (a : Int), I64 a → I64 (l.foldl stepP a) := by
    intro l
    induction l with
    | nil => exact fun a h => h
    | cons c r ih => exact fun a _ => ih _ (w64_range _)
  unfold numP
  split
  · exact hf _ _ (by unfold I64; omega)
  · exact w64_range _
theorem parseP_ok (s : List UInt8) : (parseP s).1.ok := by
  have z : I64 0 := by unfold I64; omega
  unfold parseP
  split
  · rename_i h
    generalize splitC s = ws at h
    match ws, h with
    | [a, b, c, d, e, f], _ => exact ⟨numP_i64 a, numP_i64 b, numP_i64 c, numP_i64 d, numP_i64 e, numP_i64 f⟩
  · exact ⟨z, z, z, z, z, z⟩
end Go.Proofs.Lx
/- Lines of a text, and their rows: the plain laws of CsvParses, CsvBack. -/
set_option linter.unusedSimpArgs false
set_option linter.unusedVariables false
namespace Go.Proofs.Lx
open Go.Vm
def headB : List UInt8 := [105, 100, 44, 121, 101, 97, 114, 44, 107, 105, 110, 100, 44, 102, 117, 110, 100, 44, 111, 98, 106, 101, 99, 116, 44, 97, 109, 111, 117, 110, 116]
theorem head_free : ∀ c ∈ headB, c ≠ 10 := by decide
/-- Ahead of a line's end, and behind it. -/
def cutN : List UInt8 → List UInt8 × List UInt8 × Bool
  | [] => ([], [], false)
  | c :: r => if c = 10 then ([], r, true) else (c :: (cutN r).1, (cutN r).2.1, (cutN r).2.2)
theorem cutN_line : ∀ (w s : List UInt8), (∀ c ∈ w, c ≠ 10) → cutN (w ++ 10 :: s) = (w, s, true)
  | [], s, _ => by simp [cutN]
  | c :: r, s, h => by
    rw [List.cons_append]
    conv => lhs; unfold cutN
    rw [if_neg (h c (by simp)), cutN_line r s fun c hc => h c (List.mem_cons_of_mem _ hc)]
theorem cutN_true : ∀ {s : List UInt8}, (cutN s).2.2 = true → s = (cutN s).1 ++ 10 :: (cutN s).2.1 ∧ ∀ c ∈ (cutN s).1, c ≠ 10
  | [], h => by simp [cutN] at h
  | c :: r, h => by
    unfold cutN at h ⊢
    split
    · rename_i hc; subst hc; simp
    · rename_i hc
      rw [if_neg hc] at h
      have ih := cutN_true (s := r) h
      simp only at ih ⊢
      refine ⟨?_, fun d hd => ?_⟩
      · conv => lhs; rw [ih.1]
        rfl
      · rcases List.mem_cons.1 hd with rfl | hd
        · exact hc
        · exact ih.2 d hd
theorem cutN_len {s : List UInt8} (h : (cutN s).2.2 = true) : (cutN s).2.1.length < s.length := by
  have := congrArg List.length (cutN_true h).1
  rw [List.length_append, List.length_cons] at this
  omega
def okP (a : Nat) (s : List UInt8) : Bool := (cutN s).2.2 && (if a = 0 then (cutN s).1 == headB else (parseP (cutN s).1).2)
def outCsv (a : Nat) (s : List UInt8) (out : List Rw) : List Rw := if a = 0 then out else out ++ [(parseP (cutN s).1).1]
def goP : Nat → Nat → List UInt8 → List Rw → List Rw × Int × Int
  | 0, _, _, out => (out, 0, 0)
  | k + 1, a, s, out =>
    if okP a s = true then (if (cutN s).2.1 = [] then (outCsv a s out, 0, 0) else goP k (a + 1) (cutN s).2.1 (outCsv a s out))
    else ([], (a : Int) + 1, 4)
theorem okP_cut {a : Nat} {s : List UInt8} (h : okP a s = true) : (cutN s).2.2 = true := by
  unfold okP at h
  rw [Bool.and_eq_true] at h
  exact h.1
theorem okP_head {s : List UInt8} (h : (cutN s).2.2 = true) : okP 0 s = ((cutN s).1 == headB) := by unfold okP; rw [h, if_pos rfl, Bool.true_and]
theorem okP_row {a : Nat} {s : List UInt8} (ha : a ≠ 0) (h : (cutN s).2.2 = true) : okP a s = (parseP (cutN s).1).2 := by unfold okP; rw [h, if_neg ha, Bool.true_and]
theorem outCsv_head (s : List UInt8) (out : List Rw) : outCsv 0 s out = out := rfl
theorem outCsv_row {a : Nat} (ha : a ≠ 0) (s : List UInt8) (out : List Rw) : outCsv a s out = out ++ [(parseP (cutN s).1).1] := if_neg ha
def csvP (s : List UInt8) : List Rw × Int × Int := goP (s.length + 1) 0 s []
def termW : List UInt8 → List UInt8 → List (List UInt8)
  | _, [] => []
  | w, c :: r => if c = 44 ∨ c = 10 then w :: termW [] r else termW (w ++ [c]) r
def padR (l : List Int) : Rw := ⟨l.getD 0 0, l.getD 1 0, l.getD 2 0, l.getD 3 0, l.getD 4 0, l.getD 5 0⟩
def rowR (s : List UInt8) : Rw := padR (((termW [] s).take 6).map numR)
theorem termW_word : ∀ (v w s : List UInt8) (c : UInt8), (∀ c ∈ w, c ≠ 44 ∧ c ≠ 10) → (c = 44 ∨ c = 10) → termW v (w ++ c :: s) = (v ++ w) :: termW [] s
  | v, [], s, c, _, hc => by
    rw [List.nil_append, List.append_nil]
    conv => lhs; unfold termW
    rw [if_pos hc]
  | v, d :: w, s, c, h, hc => by
    rw [List.cons_append]
    conv => lhs; unfold termW
    have hd := h d (by simp)
    rw [if_neg (fun e => e.elim hd.1 hd.2), termW_word (v ++ [d]) w s c (fun c hc => h c (List.mem_cons_of_mem _ hc)) hc]
    simp
theorem termW_join : ∀ (ws : List (List UInt8)), ws ≠ [] → (∀ w ∈ ws, ∀ c ∈ w, c ≠ 44 ∧ c ≠ 10) → termW [] (joinC ws ++ [10]) = ws
  | [], h, _ => absurd rfl h
  | [w], _, h => by
    show termW [] (w ++ 10 :: []) = _
    rw [termW_word [] w [] 10 (h w (by simp)) (.inr rfl)]; rfl
  | w :: v :: r, _, h => by
    show termW [] ((w ++ 44 :: joinC (v :: r)) ++ [10]) = _
    rw [List.append_assoc, List.cons_append, termW_word [] w _ 44 (h w (by simp)) (.inl rfl), termW_join (v :: r) (by simp) fun w hw => h w (List.mem_cons_of_mem _ hw)]
    rfl
theorem rowR_line {r : Rw} (hr : r.ok) : rowR (lineR r ++ [10]) = r := by
  obtain ⟨h1, h2, h3, h4, h5, h6⟩ := hr
  have hs : termW [] (lineR r ++ [10]) = r.nums.map textN := termW_join _ (by simp [Rw.nums]) fun w hw c hc => by
    obtain ⟨n, -, rfl⟩ := List.mem_map.1 hw
    exact text_free n c hc
  unfold rowR
  rw [hs]
  have hm : (((r.nums.map textN).take 6).map numR) = r.nums := by
    simp only [Rw.nums, List.map_cons, List.map_nil, List.take_succ_cons, List.take_nil]
    rw [numR_text h1, numR_text h2, numR_text h3, numR_text h4, numR_text h5, numR_text h6]
  rw [hm]; rfl
theorem numR_i64 (w : List UInt8) : I64 (numR w) := by
  have hf : ∀ (l : List UInt8) (a : Int), I64 a → I64 (l.foldl stepR a) := by
    intro l
    induction l with
    | nil => exact fun a h => h
    | cons c r ih => exact fun a _ => ih _ (w64_range _)
  have z : I64 0 := by unfold I64; omega
  unfold numR
  split
  · split
    · exact hf _ _ z
    · exact z
  · exact w64_range _
theorem rowR_ok (s : List UInt8) : (rowR s).ok := by
  have hg : ∀ (l : List (List UInt8)) (i : Nat), I64 ((l.map numR).getD i 0) := fun l i => by
    rw [List.getD_eq_getElem?_getD, List.getElem?_map]
    cases l[i]? with
    | none => show I64 0; unfold I64; omega
    | some w => exact numR_i64 w
  exact ⟨hg _ 0, hg _ 1, hg _ 2, hg _ 3, hg _ 4, hg _ 5⟩
/-- Both take just the lines that are a row's. -/
theorem parse_same (one : List UInt8) : (lineR (rowR (one ++ [10])) = one → parseP one = (rowR (one ++ [10]), true)) ∧ (¬ lineR (rowR (one ++ [10])) = one → (parseP one).2 = false) := by
  constructor
  · intro h
    have := parseP_line (rowR_ok (one ++ [10]))
    rw [h] at this
    exact this
  · intro h
    cases hp : (parseP one).2 with
    | false => rfl
    | true =>
      have he : parseP one = ((parseP one).1, true) := by rw [← hp]
      have hl := parseP_some he
      have hr := rowR_line (parseP_ok one)
      rw [hl] at hr
      rw [hr] at h
      exact absurd hl h
def goR : Nat → Nat → List UInt8 → List Rw → List Rw × Int × Int
  | 0, _, _, out => (out, 0, 0)
  | k + 1, a, s, out =>
    if s = [] ∧ a ≠ 0 then (out, 0, 0)
    else if (cutN s).2.2 = false then ([], (a : Int) + 1, 4)
    else if a = 0 then (if (cutN s).1 = headB then goR k (a + 1) (cutN s).2.1 out else ([], 1, 4))
    else if lineR (rowR ((cutN s).1 ++ [10])) = (cutN s).1 then goR k (a + 1) (cutN s).2.1 (out ++ [rowR ((cutN s).1 ++ [10])]) else ([], (a : Int) + 1, 4)
def csvR (s : List UInt8) : List Rw × Int × Int := goR (s.length + 2) 0 s []
theorem goP_goR : ∀ (k : Nat) (a : Nat) (s : List UInt8) (out : List Rw), s.length < k → (s ≠ [] ∨ a = 0) → goP k a s out = goR (k + 1) a s out
  | 0, a, s, out, h, _ => absurd h (Nat.not_lt_zero _)
  | k + 1, a, s, out, h, hs => by
    unfold goP goR
    rw [if_neg (show ¬ (s = [] ∧ a ≠ 0) from fun e => hs.elim (fun h => h e.1) fun h => e.2 h)]
    cases hc : (cutN s).2.2 with
    | false =>
      have : okP a s = false := by unfold okP; rw [hc, Bool.false_and]
      rw [this, if_neg (show ¬ (false = true) by decide), if_pos rfl]
    | true =>
      have hlen := cutN_len hc
      have rest : ∀ (b : Nat) (o : List Rw), b ≠ 0 → (if (cutN s).2.1 = [] then (o, (0 : Int), (0 : Int)) else goP k b (cutN s).2.1 o) = goR (k + 1) b (cutN s).2.1 o := fun b o hb => by
        by_cases he : (cutN s).2.1 = []
        · rw [if_pos he, he]
          unfold goR
          rw [if_pos (show ([] : List UInt8) = [] ∧ b ≠ 0 from ⟨rfl, hb⟩)]
        · rw [if_neg he]
          exact goP_goR k b _ o (by omega) (.inl he)
      rw [if_neg (show ¬ (true = false) by decide)]
      by_cases ha : a = 0
      · subst ha
        rw [okP_head hc, outCsv_head, if_pos (show (0 : Nat) = 0 from rfl)]
        by_cases hh : (cutN s).1 = headB
        · rw [if_pos (show ((cutN s).1 == headB) = true by rw [hh]; simp), if_pos hh]
          exact rest _ _ (by omega)
        · rw [if_neg (show ¬ ((cutN s).1 == headB) = true by simpa using hh), if_neg hh]; rfl
      · rw [okP_row ha hc, outCsv_row ha, if_neg ha]
        have hp := parse_same (cutN s).1
        by_cases hl : lineR (rowR ((cutN s).1 ++ [10])) = (cutN s).1
        · have := hp.1 hl
          rw [this, if_pos rfl, if_pos hl]
          exact rest _ _ (by omega)
        · have := hp.2 hl
          rw [this, if_neg (show ¬ (false = true) by decide), if_neg hl]
theorem csv_same (s : List UInt8) : csvP s = csvR s := goP_goR _ 0 s [] (Nat.lt_succ_self _) (.inr rfl)
def linesOf (l : List Rw) : List UInt8 := l.flatMap fun r => lineR r ++ [10]
def printP (l : List Rw) : List UInt8 := headB ++ 10 :: linesOf l
theorem line_free (r : Rw) : ∀ c ∈ lineR r, c ≠ 10 := by
  have hj : ∀ (ws : List (List UInt8)), (∀ w ∈ ws, ∀ c ∈ w, c ≠ 10) → ∀ c ∈ joinC ws, c ≠ 10 := by
    intro ws
    induction ws with
    | nil => intro _ c hc; simp [joinC] at hc
    | cons w r ih =>
      intro h c hc
      cases r with
      | nil => exact h w (by simp) c hc
      | cons v r =>
        have hc : c ∈ w ++ 44 :: joinC (v :: r) := hc
        rcases List.mem_append.1 hc with hc | hc
        · exact h w (by simp) c hc
        · rcases List.mem_cons.1 hc with rfl | hc
          · decide
          · exact ih (fun w hw => h w (List.mem_cons_of_mem _ hw)) c hc
  exact hj _ fun w hw c hc => by
    obtain ⟨n, -, rfl⟩ := List.mem_map.1 hw
    exact (text_free n c hc).2
theorem goP_lines : ∀ (l : List Rw) (k a : Nat) (out : List Rw), (∀ r ∈ l, r.ok) → l ≠ [] → (linesOf l).length < k → a ≠ 0 → goP k a (linesOf l) out = (out ++ l, 0, 0)
  | [], _, _, _, _, h, _, _ => absurd rfl h
  | r :: l, 0, _, _, _, _, h, _ => absurd h (Nat.not_lt_zero _)
  | r :: l, k + 1, a, out, ho, _, hk, ha => by
    have he : linesOf (r :: l) = lineR r ++ 10 :: linesOf l := by unfold linesOf; rw [List.flatMap_cons]; simp
    have hc : cutN (linesOf (r :: l)) = (lineR r, linesOf l, true) := by rw [he]; exact cutN_line _ _ (line_free r)
    have hp := parseP_line (ho r (by simp))
    have hlen := congrArg List.length he
    rw [List.length_append, List.length_cons] at hlen
    have h1 : (cutN (linesOf (r :: l))).2.2 = true := by rw [hc]
    have h2 : okP a (linesOf (r :: l)) = true := by rw [okP_row ha h1, hc, hp]
    have h3 : outCsv a (linesOf (r :: l)) out = out ++ [r] := by rw [outCsv_row ha, hc, hp]
    unfold goP
    rw [if_pos h2, h3, hc]
    simp only
    cases l with
    | nil => rw [if_pos (show linesOf [] = [] from rfl)]
    | cons v l =>
      have hne : linesOf (v :: l) ≠ [] := by
        unfold linesOf; rw [List.flatMap_cons]; simp
      rw [if_neg hne, goP_lines (v :: l) k (a + 1) (out ++ [r]) (fun r hr => ho r (List.mem_cons_of_mem _ hr)) (by simp) (by omega) (by omega)]
      simp
theorem csv_back {l : List Rw} (hl : ∀ r ∈ l, r.ok) : csvP (printP l) = (l, 0, 0) := by
  have hc : cutN (printP l) = (headB, linesOf l, true) := cutN_line _ _ head_free
  have hlen : (linesOf l).length < (printP l).length := by unfold printP; rw [List.length_append, List.length_cons]; omega
  have h1 : (cutN (printP l)).2.2 = true := by rw [hc]
  have h2 : okP 0 (printP l) = true := by rw [okP_head h1, hc]; simp
  unfold csvP goP
  rw [if_pos h2, outCsv_head, hc]
  simp only
  cases l with
  | nil => rw [if_pos (show linesOf [] = [] from rfl)]
  | cons v l =>
    have hne : linesOf (v :: l) ≠ [] := by
      unfold linesOf; rw [List.flatMap_cons]; simp
    rw [if_neg hne, goP_lines (v :: l) _ 1 [] hl (by simp) hlen (by omega)]
    simp
theorem goP_read : ∀ (k a : Nat) (s : List UInt8) (out : List Rw), s.length < k → a ≠ 0 → (goP k a s out).2.2 = 0 → ∃ l, goP k a s out = (out ++ l, 0, 0) ∧ s = linesOf l
  | 0, a, s, out, h, _, _ => absurd h (Nat.not_lt_zero _)
  | k + 1, a, s, out, h, ha, he => by
    unfold goP at he ⊢
    split
    · rename_i hc
      rw [if_pos hc, outCsv_row ha] at he
      rw [outCsv_row ha]
      have hc1 := okP_cut hc
      rw [okP_row ha hc1] at hc
      obtain ⟨hs, hfree⟩ := cutN_true hc1
      have hlen := cutN_len hc1
      have hl : lineR (parseP (cutN s).1).1 = (cutN s).1 := parseP_some (by rw [← hc])
      split
      · rename_i hn
        refine ⟨[(parseP (cutN s).1).1], rfl, ?_⟩
        unfold linesOf
        rw [List.flatMap_cons, List.flatMap_nil, hl, List.append_nil]
        rw [hn] at hs
        exact hs
      · rename_i hn
        rw [if_neg hn] at he
        obtain ⟨l, e1, e2⟩ := goP_read k (a + 1) _ _ (by omega) (by omega) he
        refine ⟨(parseP (cutN s).1).1 :: l, by rw [e1]; simp, ?_⟩
        have : linesOf ((parseP (cutN s).1).1 :: l) = (cutN s).1 ++ 10 :: linesOf l := by unfold linesOf; rw [List.flatMap_cons, hl]; simp
        rw [this, ← e2]
        exact hs
    · rename_i hc
      rw [if_neg hc] at he
      simp at he
theorem csv_read {s : List UInt8} (h : (csvP s).2.2 = 0) : printP (csvP s).1 = s := by
  unfold csvP goP at h ⊢
  split
  · rename_i hc
    rw [if_pos hc, outCsv_head] at h
    rw [outCsv_head]
    have hc1 := okP_cut hc
    rw [okP_head hc1] at hc
    obtain ⟨hs, hfree⟩ := cutN_true hc1
    have hlen := cutN_len hc1
    have hh : (cutN s).1 = headB := by simpa using hc
    rw [hh] at hs
    split
    · rename_i hn
      rw [hn] at hs
      exact hs.symm
    · rename_i hn
      rw [if_neg hn] at h
      obtain ⟨l, e1, e2⟩ := goP_read _ _ _ _ hlen (by omega) h
      rw [e1]
      unfold printP
      rw [List.nil_append, ← e2]
      exact hs.symm
  · rename_i hc
    rw [if_neg hc] at h
    simp at h
theorem goP_err : ∀ (k a : Nat) (s : List UInt8) (out : List Rw), (goP k a s out).2.2 ≠ 0 → (goP k a s out).1 = [] ∧ 0 < (goP k a s out).2.1 ∧ (goP k a s out).2.2 = 4
  | 0, a, s, out, h => absurd rfl h
  | k + 1, a, s, out, h => by
    unfold goP at h ⊢
    split
    · rename_i hc
      rw [if_pos hc] at h
      split
      · rename_i hn
        rw [if_pos hn] at h
        exact absurd rfl h
      · rename_i hn
        rw [if_neg hn] at h
        exact goP_err k _ _ _ h
    · exact ⟨rfl, by show 0 < (a : Int) + 1; omega, rfl⟩
theorem goP_ok : ∀ (k a : Nat) (s : List UInt8) (out : List Rw), (∀ r ∈ out, r.ok) → ∀ r ∈ (goP k a s out).1, r.ok
  | 0, a, s, out, h => h
  | k + 1, a, s, out, h => by
    have ho : ∀ r ∈ outCsv a s out, r.ok := fun r hr => by
      unfold outCsv at hr
      split at hr
      · exact h r hr
      · rcases List.mem_append.1 hr with hr | hr
        · exact h r hr
        · rw [List.mem_singleton] at hr; subst hr
          exact parseP_ok _
    unfold goP
    split
    · split
      · exact ho
      · exact goP_ok k _ _ _ ho
    · intro r hr; simp at hr
end Go.Proofs.Lx
/- Slices that are turned in place: IndexFunc and DeleteFunc, at pairs. -/
set_option linter.unusedSimpArgs false
set_option linter.unusedVariables false
namespace Go.Proofs.Lx
open Go.Vm
attribute [local irreducible] awpArr awpBin awpMake awpAppend awpCvX awpStrOf awpBinX awpSlice awpBS awpStore awpAlloc awpCopy awpIndex awpDraw awpIdxX awpFa awpField awpLookup awpUpdate awpDelete awpClear awpRange awpNext awpEntry awpBuild awpClearS awpIdxL
theorem row_elem {sz : Nat} {xs cs : List AV} (hu : ∀ x ∈ xs, x.cells.length = sz) (hc : cs.take (xs.length * sz) = flat xs) (i : Nat) (hi : i < xs.length) :
    (cs.drop (i * sz)).take sz = xs[i].cells ∧ sz ≤ (cs.drop (i * sz)).length := by
  have hfl := flat_length hu
  have hlen : xs.length * sz ≤ cs.length := by
    have : (cs.take (xs.length * sz)).length = xs.length * sz := by rw [hc, hfl]
    rw [List.length_take] at this; omega
  have hb : i * sz + sz ≤ xs.length * sz := by
    have : (i + 1) * sz ≤ xs.length * sz := Nat.mul_le_mul_right _ (by omega)
    rw [Nat.add_mul] at this; omega
  have h2 : sz ≤ (cs.drop (i * sz)).length := by rw [List.length_drop]; omega
  refine ⟨?_, h2⟩
  apply List.ext_getElem?
  intro j
  rw [List.getElem?_take]
  split
  · rename_i hj
    rw [List.getElem?_drop]
    have e1 : cs[i * sz + j]? = (flat xs)[i * sz + j]? := by rw [← hc, List.getElem?_take, if_pos (by omega)]
    rw [e1, flat_get hu (List.getElem?_eq_getElem hi) j hj]
  · rw [List.getElem?_eq_none]
    have := hu xs[i] (List.getElem_mem hi)
    omega
def isPr (x : AV) : Prop := ∃ a b, x = .agg [a, b] ∧ solid a = true ∧ solid b = true
theorem isPr.cells {x : AV} (h : isPr x) : x.cells.length = 2 := by obtain ⟨a, b, rfl, -⟩ := h; rfl
end Go.Proofs.Lx
/- Strings: bytes found, cut, counted, split; a word's beginning; pieces joined. -/
set_option linter.unusedSimpArgs false
set_option linter.unusedVariables false
namespace Go.Proofs.Lx
open Go.Vm Go.RowKit
attribute [local irreducible] awpArr awpBin awpMake awpAppend awpCvX awpStrOf awpBinX awpSlice awpBS awpStore awpAlloc awpCopy awpIndex awpDraw awpIdxX awpFa awpField awpLookup awpUpdate awpDelete awpClear awpRange awpNext awpEntry awpBuild awpClearS awpIdxL
theorem plain_end {w w' : World} {g : Gh} {h : Heap} {r : AV} {v : Value} {Q : AV → Heap → Prop} (hh : HeapRep w g h) (hfr : ∀ b, w.heap.size ≤ b → g.pub b = 0) (hb : Below w.heap.size w w') (hq : Q r h) (hres : ∀ w g B, ResRep w g B r v) :
    ∃ r h' g' v', Q r h' ∧ Ending.returned v = .returned v' ∧ ResRep w' g' w.heap.size r v' ∧ HeapRep w' g' h' ∧ Go.Vm.Frame w g w' ∧
      g.n ≤ g'.n ∧ (∀ i, i < g.n → g'.loc i = g.loc i) ∧ (∀ b, b < w.heap.size → g'.pub b = g.pub b) ∧ (∀ i, i < g'.n → g.n ≤ i → w.heap.size ≤ g'.loc i) ∧ (∀ b, w'.heap.size ≤ b → g'.pub b = 0) := by
  have hk : Keeps w g w' g := ⟨fun _ => Nat.le_refl _, fun k j v hj hv => by
    have hkl : k < w.heap.size := by
      rcases Nat.lt_or_ge k w.heap.size with h | h
      · exact h
      · rw [hfr k h] at hj; omega
    rw [World.cell?_of_block (a := ⟨k, j, none⟩) (hb.block k hkl)]; exact hv, Nat.le_refl _, fun _ _ => rfl⟩
  exact ⟨r, h, g, v, hq, rfl, hres w' g _, ⟨hh.n, fun i hi => Nat.lt_of_lt_of_le (hh.lt i hi) hb.size, hh.inj, fun i o ho => (hh.obj i o ho).keepAt hk ⟨hb.block _ (hh.lt i (by rw [← hh.n]; exact (List.getElem?_eq_some_iff.1 ho).1)), rfl⟩⟩,
    ⟨hb.os, hb.tape, hb.output, hb.size, fun k hk' _ => hb.block k hk'⟩, Nat.le_refl _, fun _ _ => rfl, fun _ _ => rfl, fun i hi h1 => by omega, fun k hk' => hfr k (Nat.le_trans hb.size hk')⟩
theorem does_of_plain {f : FuncId} {S : Vm.Spec} (hc : Callable Tryd.prog f) (key : ∀ args h Q, S args h Q → ∃ (xs : List Value) (v : Value) (r : AV), args = xs.map AV.v ∧ Q r h ∧ (∀ w g B, ResRep w g B r v) ∧ ∀ w, Calls Tryd.prog f xs.toArray w fun e w' => e = .returned v ∧ Below w.heap.size w w') : Does Tryd.prog f S := by
  refine ⟨hc, ?_⟩
  intro args h Q hS w g vs hvs hrep hh hfr hlaid
  obtain ⟨xs, v, r, rfl, hq, hres, hcall⟩ := key args h Q hS
  have hvs2 : vs = xs.toArray := by
    have h2 : vs.size = xs.length := by simpa using hvs
    apply Array.ext
    · simpa using h2
    · intro i hi1 hi2
      have hi : i < xs.length := by omega
      have := (rep_v (hrep i (.v xs[i]) (by rw [List.getElem?_map, List.getElem?_eq_getElem hi]; rfl))).1
      simpa [Array.getD, hi1] using this
  subst hvs2
  refine (hcall w).mono ?_
  rintro e w' ⟨rfl, hb⟩
  exact plain_end hh hfr hb hq hres
def strA (l : List UInt8) : AV := .v (.string ⟨l.toArray⟩)
theorem sz_mk (s : List UInt8) : (⟨s.toArray⟩ : ByteArray).size = s.length := by simp [ByteArray.size]
theorem data_mk (s : List UInt8) : (⟨s.toArray⟩ : ByteArray).data.toList = s := by simp
theorem byte_ext {a b : ByteArray} (h : a.data.toList = b.data.toList) : a = b := by
  cases a with | mk a => cases b with | mk b => exact congrArg ByteArray.mk (Array.toList_inj.1 h)
theorem app_mk (a b : List UInt8) : (⟨a.toArray⟩ : ByteArray) ++ (⟨b.toArray⟩ : ByteArray) = ⟨(a ++ b).toArray⟩ := byte_ext (by simp [ByteArray.data_append])
theorem ext_mk (s : List UInt8) (i j : Nat) : (⟨s.toArray⟩ : ByteArray).extract i j = ⟨((s.take j).drop i).toArray⟩ := byte_ext (by simp [ByteArray.data_extract, List.drop_take])
theorem add_str {t : TypeId} {a b : List UInt8} {K : Value → Prop} (h : a.length + b.length ≤ 9223372036854775807) (hK : K (.string ⟨(a ++ b).toArray⟩)) : awpBin Tryd.prog .add t (.v (.string ⟨a.toArray⟩)) (.v (.string ⟨b.toArray⟩)) K := by
  unfold awpBin
  simp only
  rw [sz_mk, sz_mk, app_mk]
  exact ⟨by unfold maxLen; omega, hK⟩
theorem mid_str {t : Nat} {s : List UInt8} {lo hi : Option AV} {l m : Nat} {K : AV → Prop} (ht : Tryd.prog.underlying t = some .string) (hl : boundOf 0 lo = some (l : Int)) (hm : ∀ d, boundOf d hi = some (m : Int)) (h1 : l ≤ m) (h2 : m ≤ s.length)
    (hK : K (.v (.string ⟨((s.take m).drop l).toArray⟩))) : awpSlice Tryd.prog t (.v (.string ⟨s.toArray⟩)) lo hi none K :=
  slice_str ht hl (hm _) (by omega) (by omega) (by rw [sz_mk]; omega) (by rw [ext_mk, Int.toNat_natCast, Int.toNat_natCast]; exact hK)
theorem to_str {t : Nat} {s : List UInt8} {hi : Option AV} {m : Nat} {K : AV → Prop} (ht : Tryd.prog.underlying t = some .string) (hm : ∀ d, boundOf d hi = some (m : Int)) (h2 : m ≤ s.length)
    (hK : K (.v (.string ⟨(s.take m).toArray⟩))) : awpSlice Tryd.prog t (.v (.string ⟨s.toArray⟩)) none hi none K :=
  mid_str (l := 0) ht rfl hm (Nat.zero_le _) h2 (by rw [List.drop_zero]; exact hK)
theorem from_str {t : Nat} {s : List UInt8} {lo : Option AV} {l : Nat} {K : AV → Prop} (ht : Tryd.prog.underlying t = some .string) (hl : boundOf 0 lo = some (l : Int)) (h2 : l ≤ s.length)
    (hK : K (.v (.string ⟨(s.drop l).toArray⟩))) : awpSlice Tryd.prog t (.v (.string ⟨s.toArray⟩)) lo none none K :=
  slice_str ht hl (m := (s.length : Int)) (by rw [sz_mk]; rfl) (by omega) (by omega) (by rw [sz_mk]; omega) (by rw [ext_mk, Int.toNat_natCast, Int.toNat_natCast, List.take_length]; exact hK)
theorem idx_mp {α : Type} (g : α → AV) (l : List α) (i : Nat) (hi : i < l.length) {e sz : Nat} {K : AV → Prop} (hK : K (.eptr (g l[i]).cells)) : awpIdx (some (e, sz)) (.sl sz (l.map g)) (.v (.int .i64 i)) K := by
  refine idx_intro (xs := l.map g) (by simp [asSl]) (by simp; omega) (fun x hx => ?_)
  have hx' : x = g l[i] := by simp [hi] at hx; exact hx.symm
  subst hx'; exact hK
theorem at_str {t : TypeId} {s : List UInt8} {k : IntKind} {n : Int} {c : UInt8} {K : AV → Prop} (ht : Tryd.prog.underlying t = some .string) (h0 : 0 ≤ n) (h1 : s[n.toNat]? = some c) (hK : K (.v (.int .u8 c.toNat))) : awpIndex Tryd.prog t (.v (.string ⟨s.toArray⟩)) (.v (.int k n)) K := by
  have hlt : n.toNat < s.length := by
    rcases Nat.lt_or_ge n.toNat s.length with h | h
    · exact h
    · rw [List.getElem?_eq_none h] at h1; cases h1
  refine index_str ht h0 (by rw [sz_mk]; omega) ?_
  rw [data_mk, List.getD_eq_getElem?_getD, h1]
  exact hK
def posB (c : UInt8) (s : List UInt8) : Nat := (s.takeWhile (· != c)).length
theorem posB_cons (c b : UInt8) (r : List UInt8) : posB c (b :: r) = if b = c then 0 else posB c r + 1 := by
  unfold posB
  rw [List.takeWhile_cons]
  by_cases h : b = c
  · rw [if_pos h, if_neg (by simpa using h)]; rfl
  · rw [if_neg h, if_pos (by simpa using h), List.length_cons]
theorem posB_lt {c : UInt8} : ∀ {s : List UInt8}, c ∈ s → posB c s < s.length
  | [], h => by simp at h
  | b :: r, h => by
    rw [posB_cons, List.length_cons]
    split
    · omega
    · rename_i hb
      rcases List.mem_cons.1 h with rfl | h
      · exact absurd rfl hb
      · have := posB_lt h; omega
theorem ixb_mem {c : UInt8} : ∀ {s : List UInt8}, c ∈ s → Lib.indexByte s c = (posB c s : Int)
  | [], h => by simp at h
  | b :: r, h => by
    rw [posB_cons]
    unfold Lib.indexByte
    by_cases hb : b = c
    · rw [if_pos (by simpa using hb), if_pos hb]; rfl
    · have hr : c ∈ r := (List.mem_cons.1 h).resolve_left fun e => hb e.symm
      rw [if_neg (by simpa using hb), if_neg hb, ixb_mem hr, if_neg (by simp only [beq_iff_eq]; omega)]
      omega
theorem ixb_none {c : UInt8} : ∀ {s : List UInt8}, c ∉ s → Lib.indexByte s c = -1
  | [], _ => rfl
  | b :: r, h => by
    have hb : ¬ b = c := fun e => h (by rw [e]; simp)
    have hr := ixb_none (s := r) fun hr => h (List.mem_cons_of_mem _ hr)
    unfold Lib.indexByte
    rw [if_neg (by simpa using hb), hr]
    rfl
theorem cutN_mem : ∀ {s : List UInt8}, 10 ∈ s → cutN s = (s.take (posB 10 s), s.drop (posB 10 s + 1), true)
  | [], h => by simp at h
  | b :: r, h => by
    rw [posB_cons]
    unfold cutN
    by_cases hb : b = 10
    · rw [if_pos hb, if_pos hb]; rfl
    · have hr : 10 ∈ r := (List.mem_cons.1 h).resolve_left fun e => hb e.symm
      rw [if_neg hb, if_neg hb, cutN_mem hr]; rfl
theorem cutN_none : ∀ {s : List UInt8}, 10 ∉ s → cutN s = (s, [], false)
  | [], _ => rfl
  | b :: r, h => by
    have hb : ¬ b = 10 := fun e => h (by rw [e]; simp)
    unfold cutN
    rw [if_neg hb, cutN_none fun hr => h (List.mem_cons_of_mem _ hr)]
theorem splitC_mem : ∀ {s : List UInt8}, 44 ∈ s → splitC s = s.take (posB 44 s) :: splitC (s.drop (posB 44 s + 1))
  | [], h => by simp at h
  | b :: r, h => by
    rw [posB_cons]
    conv => lhs; unfold splitC
    by_cases hb : b = 44
    · rw [if_pos hb, if_pos hb]; rfl
    · have hr : 44 ∈ r := (List.mem_cons.1 h).resolve_left fun e => hb e.symm
      rw [if_neg hb, if_neg hb, splitC_mem hr]; rfl
theorem splitC_none {s : List UInt8} (h : 44 ∉ s) : splitC s = [s] := splitC_last s fun c hc e => h (e ▸ hc)
theorem splitC_count : ∀ (s : List UInt8), (splitC s).length = s.count 44 + 1
  | [] => rfl
  | b :: r => by
    have ih := splitC_count r
    unfold splitC
    by_cases hb : b = 44
    · rw [if_pos hb, List.length_cons, ih, hb, List.count_cons_self]
    · rw [if_neg hb, List.count_cons, if_neg (show ¬ (b == 44) = true from fun e => hb (beq_iff_eq.1 e)), Nat.add_zero, ← ih]
      revert ih
      cases splitC r with
      | nil => intro ih; rw [List.length_nil] at ih; omega
      | cons w ws => intro _; rfl
def ixbSpec : Vm.Spec := fun args h Q => ∃ (s : List UInt8) (c : UInt8), args = [strA s, .v (.int .u8 c.toNat)] ∧ Q (.v (.int .i64 (Lib.indexByte s c))) h
theorem byte_back (c : UInt8) : ((c.toNat : Int).toNat).toUInt8 = c := by rw [Int.toNat_natCast]; exact UInt8.ofNat_toNat
theorem does_ixb : Does Tryd.prog 37 ixbSpec :=
  does_of_plain ⟨Tryd.f37, Tryd.func37, by kernel_rfl, by decide +kernel⟩ fun args h Q ⟨s, c, ha, hq⟩ =>
    ⟨[.string ⟨s.toArray⟩, .int .u8 c.toNat], .int .i64 (Lib.indexByte s c), _, ha, hq, fun w g B => Rep.v rfl, fun w => (Any.stringslite_IndexByte Tryd.ixB ⟨s.toArray⟩ c.toNat w).mono fun e w' hh => by
      rw [byte_back, data_mk] at hh
      exact ⟨hh.1, hh.2 ▸ Below.refl _ _⟩⟩
def cntbSpec : Vm.Spec := fun args h Q => ∃ (s : List UInt8) (c : UInt8), args = [strA s, strA [c]] ∧ Q (.v (.int .i64 (s.count c : Nat))) h
theorem does_cntb : Does Tryd.prog 42 cntbSpec :=
  does_of_plain ⟨Tryd.f42, Tryd.func42, by kernel_rfl, by decide +kernel⟩ fun args h Q ⟨s, c, ha, hq⟩ =>
    ⟨[.string ⟨s.toArray⟩, .string ⟨#[c]⟩], .int .i64 (s.count c : Nat), _, ha, hq, fun w g B => Rep.v rfl, fun w => (Any.strings_Count_one Tryd.cntB ⟨s.toArray⟩ c w).mono fun e w' hh => by
      rw [data_mk] at hh
      exact ⟨hh.1, hh.2 ▸ Below.refl _ _⟩⟩
def ixsSpec : Vm.Spec := fun args h Q => ∃ (s : List UInt8) (c : UInt8), args = [strA s, strA [c]] ∧ Q (.v (.int .i64 (Lib.indexByte s c))) h
set_option maxHeartbeats 1000000 in
theorem does_ixs : Does Tryd.prog 29 ixsSpec := by
  refine does_of_awp (good_cons does_ixb good_nil) Tryd.func29 rfl (by decide +kernel) (by decide +kernel) ?_
  rintro args h Q ⟨s, c, rfl, hq⟩
  refine ⟨by simp [Tryd.f29], ?_⟩
  rw [awpFunc_some (by rfl)]
  simp only [strA]
  have h1 : (((ByteArray.mk [c].toArray).size : Nat) : Int) = 1 := by rw [sz_mk]; rfl
  simp -dsimp only [Vm.G, List.lookup, Nat.reduceAdd, Nat.reduceBEq, Int.reduceBNe, Int.reduceBEq, Nat.reduceLeDiff, q29, h1, str_eql, toList_mk]
  cases c1 : ([c] == s)
  · simp -dsimp only [Vm.G, List.lookup, Nat.reduceAdd, Nat.reduceBEq, Int.reduceBNe, Int.reduceBEq, Nat.reduceLeDiff, q29, c1, h1]
    refine at_str (c := c) Tryd.underlying9 (by decide) rfl ?_
    simp -dsimp only [Vm.G, List.lookup, Nat.reduceAdd, Nat.reduceBEq, Int.reduceBNe, Int.reduceBEq, Nat.reduceLeDiff, q29]
    refine call_one (S := ixbSpec) rfl _ GaL.rfl ⟨s, c, rfl, ?_⟩
    simp -dsimp only [Vm.G, List.lookup, Nat.reduceAdd, Nat.reduceBEq, Int.reduceBNe, Int.reduceBEq, Nat.reduceLeDiff, q29]
    exact hq
  · have e1 : [c] = s := by simpa using c1
    subst e1
    have e2 : Lib.indexByte [c] c = 0 := by rw [ixb_mem (by simp), posB_cons, if_pos rfl]; rfl
    rw [e2] at hq
    simp -dsimp only [Vm.G, List.lookup, Nat.reduceAdd, Nat.reduceBEq, Int.reduceBNe, Int.reduceBEq, Nat.reduceLeDiff, q29, c1]
    exact hq
theorem does_ixt : Does Tryd.prog 43 ixsSpec := by
  refine does_of_awp (good_cons does_ixs good_nil) Tryd.func43 rfl (by decide +kernel) (by decide +kernel) ?_
  rintro args h Q ⟨s, c, rfl, hq⟩
  refine ⟨by simp [Tryd.f43], ?_⟩
  rw [awpFunc_some (by rfl)]
  simp -dsimp only [Vm.G, List.lookup, Nat.reduceAdd, Nat.reduceBEq, Int.reduceBNe, Int.reduceBEq, Nat.reduceLeDiff, q43]
  refine call_one (S := ixsSpec) rfl _ GaL.rfl ⟨s, c, rfl, ?_⟩
  simp -dsimp only [Vm.G, List.lookup, Nat.reduceAdd, Nat.reduceBEq, Int.reduceBNe, Int.reduceBEq, Nat.reduceLeDiff, q43]
  exact hq
def cutSpec : Vm.Spec := fun args h Q => ∃ s : List UInt8, s.length ≤ 1073741824 ∧ args = [strA s, strA [10]] ∧ Q (.tup [strA (cutN s).1, strA (cutN s).2.1, .v (.bool (cutN s).2.2)]) h
set_option maxHeartbeats 1000000 in
theorem does_cutL : Does Tryd.prog 19 cutSpec := by
  refine does_of_awp (good_cons does_ixs good_nil) Tryd.func19 rfl (by decide +kernel) (by decide +kernel) ?_
  rintro args h Q ⟨s, hl, rfl, hq⟩
  refine ⟨by simp [Tryd.f19], ?_⟩
  rw [awpFunc_some (by rfl)]
  simp only [strA] at hq ⊢
  simp -dsimp only [Vm.G, List.lookup, Nat.reduceAdd, Nat.reduceBEq, Int.reduceBNe, Int.reduceBEq, Nat.reduceLeDiff, q19]
  refine call_one (S := ixsSpec) rfl _ GaL.rfl ⟨s, 10, rfl, ?_⟩
  by_cases hm : 10 ∈ s
  · have hp := posB_lt hm
    rw [ixb_mem hm]
    rw [cutN_mem hm] at hq
    have c1 : decide (((posB 10 s : Nat) : Int) ≥ 0) = true := decide_eq_true (by omega)
    have h1 : (((ByteArray.mk [10].toArray).size : Nat) : Int) = 1 := by rw [sz_mk]; rfl
    have hw : IntKind.i64.wrap ((posB 10 s : Nat) + 1 : Int) = ((posB 10 s + 1 : Nat) : Int) := by rw [wrap_i64 (by omega) (by omega)]; simp
    generalize posB 10 s = p at hp hq c1 hw ⊢
    simp -dsimp only [Vm.G, List.lookup, Nat.reduceAdd, Nat.reduceBEq, Int.reduceBNe, Int.reduceBEq, Nat.reduceLeDiff, q19, c1]
    refine draw_intro (.take 0 (.take 1 (.take 2 (.take 3 (.take 4 (.take 5 (.take 6 (.take 7 (.take 8 (.alt 9 (.alt 10 (.alt 11 (.done) .stop) .stop) .stop)))))))))) (by kernel_rfl) (by kernel_rfl) (by kernel_rfl) (by decide) ?_
    simp -dsimp only [Vm.G, List.lookup, Nat.reduceAdd, Nat.reduceBEq, Int.reduceBNe, Int.reduceBEq, Nat.reduceLeDiff, q19, h1, hw]
    refine to_str (m := p) Tryd.underlying9 (fun _ => rfl) (by omega) ?_
    simp -dsimp only [Vm.G, List.lookup, Nat.reduceAdd, Nat.reduceBEq, Int.reduceBNe, Int.reduceBEq, Nat.reduceLeDiff, q19, h1, hw]
    refine from_str (l := p + 1) Tryd.underlying9 rfl (by omega) ?_
    simp -dsimp only [Vm.G, List.lookup, Nat.reduceAdd, Nat.reduceBEq, Int.reduceBNe, Int.reduceBEq, Nat.reduceLeDiff, q19]
    exact hq
  · rw [ixb_none hm]
    rw [cutN_none hm] at hq
    have cm : decide ((-1 : Int) ≥ 0) = false := by decide
    simp -dsimp only [Vm.G, List.lookup, Nat.reduceAdd, Nat.reduceBEq, Int.reduceBNe, Int.reduceBEq, Nat.reduceLeDiff, q19, cm]
    exact hq
theorem does_cut : Does Tryd.prog 12 cutSpec := by
  refine does_of_awp (good_cons does_cutL good_nil) Tryd.func12 rfl (by decide +kernel) (by decide +kernel) ?_
  rintro args h Q ⟨s, hl, rfl, hq⟩
  refine ⟨by simp [Tryd.f12], ?_⟩
  rw [awpFunc_some (by rfl)]
  simp -dsimp only [Vm.G, List.lookup, Nat.reduceAdd, Nat.reduceBEq, Int.reduceBNe, Int.reduceBEq, Nat.reduceLeDiff, q12]
  refine call_one (S := cutSpec) rfl _ GaL.rfl ⟨s, hl, rfl, ?_⟩
  simp only [strA] at hq ⊢
  simp -dsimp only [Vm.G, List.lookup, Nat.reduceAdd, Nat.reduceBEq, Int.reduceBNe, Int.reduceBEq, Nat.reduceLeDiff, q12]
  exact hq
def hasPSpec : Vm.Spec := fun args h Q => ∃ (s : List UInt8) (c : UInt8), args = [strA s, strA [c]] ∧ Q (.v (.bool (s.head? == some c))) h
set_option maxHeartbeats 1000000 in
theorem does_hasP : Does Tryd.prog 51 hasPSpec := by
  refine does_of_awp good_nil Tryd.func51 rfl (by decide +kernel) (by decide +kernel) ?_
  rintro args h Q ⟨s, c, rfl, hq⟩
  refine ⟨by simp [Tryd.f51], ?_⟩
  rw [awpFunc_some (by rfl)]
  simp only [strA]
  have h1 : (((ByteArray.mk [c].toArray).size : Nat) : Int) = 1 := by rw [sz_mk]; rfl
  have h0 := sz_mk s
  simp -dsimp only [Vm.G, List.lookup, Nat.reduceAdd, Nat.reduceBEq, Int.reduceBNe, Int.reduceBEq, Nat.reduceLeDiff, q51, h1, h0]
  by_cases hp : 1 ≤ s.length
  · have c1 : decide (((s.length : Nat) : Int) ≥ 1) = true := decide_eq_true (by omega)
    have e1 : (s.take 1 == [c]) = (s.head? == some c) := by
      cases s with
      | nil => simp at hp
      | cons a r => simp [List.take_succ_cons]
    simp -dsimp only [Vm.G, List.lookup, Nat.reduceAdd, Nat.reduceBEq, Int.reduceBNe, Int.reduceBEq, Nat.reduceLeDiff, q51, c1, h1]
    refine to_str (m := 1) Tryd.underlying9 (fun _ => rfl) hp ?_
    simp -dsimp only [Vm.G, List.lookup, Nat.reduceAdd, Nat.reduceBEq, Int.reduceBNe, Int.reduceBEq, Nat.reduceLeDiff, q51, str_eql, toList_mk, e1]
    exact hq
  · have c1 : decide (((s.length : Nat) : Int) ≥ 1) = false := decide_eq_false (by omega)
    have e0 : s = [] := List.eq_nil_of_length_eq_zero (by omega)
    have e1 : (s.head? == some c) = false := by rw [e0]; rfl
    rw [e1] at hq
    simp -dsimp only [Vm.G, List.lookup, Nat.reduceAdd, Nat.reduceBEq, Int.reduceBNe, Int.reduceBEq, Nat.reduceLeDiff, q51, c1]
    exact hq
def cutPSpec : Vm.Spec := fun args h Q => ∃ (s : List UInt8) (c : UInt8), args = [strA s, strA [c]] ∧ Q (.tup [strA (if s.head? = some c then s.drop 1 else s), .v (.bool (s.head? == some c))]) h
set_option maxHeartbeats 1000000 in
theorem does_cutPL : Does Tryd.prog 44 cutPSpec := by
  refine does_of_awp (good_cons does_hasP good_nil) Tryd.func44 rfl (by decide +kernel) (by decide +kernel) ?_
  rintro args h Q ⟨s, c, rfl, hq⟩
  refine ⟨by simp [Tryd.f44], ?_⟩
  rw [awpFunc_some (by rfl)]
  simp only [strA] at hq ⊢
  have h1 : (((ByteArray.mk [c].toArray).size : Nat) : Int) = 1 := by rw [sz_mk]; rfl
  simp -dsimp only [Vm.G, List.lookup, Nat.reduceAdd, Nat.reduceBEq, Int.reduceBNe, Int.reduceBEq, Nat.reduceLeDiff, q44]
  refine call_one (S := hasPSpec) rfl _ GaL.rfl ⟨s, c, rfl, ?_⟩
  by_cases hc : s.head? = some c
  · have c1 : (s.head? == some c) = true := by simpa using hc
    rw [if_pos hc, c1] at hq
    have hp : 1 ≤ s.length := by
      cases s with
      | nil => cases hc
      | cons a r => rw [List.length_cons]; omega
    rw [c1]
    simp -dsimp only [Vm.G, List.lookup, Nat.reduceAdd, Nat.reduceBEq, Int.reduceBNe, Int.reduceBEq, Nat.reduceLeDiff, q44, h1]
    refine from_str (l := 1) Tryd.underlying9 rfl hp ?_
    simp -dsimp only [Vm.G, List.lookup, Nat.reduceAdd, Nat.reduceBEq, Int.reduceBNe, Int.reduceBEq, Nat.reduceLeDiff, q44]
    exact hq
  · have c1 : (s.head? == some c) = false := by simpa using hc
    rw [if_neg hc, c1] at hq
    rw [c1]
    simp -dsimp only [Vm.G, List.lookup, Nat.reduceAdd, Nat.reduceBEq, Int.reduceBNe, Int.reduceBEq, Nat.reduceLeDiff, q44]
    exact hq
theorem does_cutP : Does Tryd.prog 31 cutPSpec := by
  refine does_of_awp (good_cons does_cutPL good_nil) Tryd.func31 rfl (by decide +kernel) (by decide +kernel) ?_
  rintro args h Q ⟨s, c, rfl, hq⟩
  refine ⟨by simp [Tryd.f31], ?_⟩
  rw [awpFunc_some (by rfl)]
  simp -dsimp only [Vm.G, List.lookup, Nat.reduceAdd, Nat.reduceBEq, Int.reduceBNe, Int.reduceBEq, Nat.reduceLeDiff, q31]
  refine call_one (S := cutPSpec) rfl _ GaL.rfl ⟨s, c, rfl, ?_⟩
  simp only [strA] at hq ⊢
  simp -dsimp only [Vm.G, List.lookup, Nat.reduceAdd, Nat.reduceBEq, Int.reduceBNe, Int.reduceBEq, Nat.reduceLeDiff, q31]
  exact hq
end Go.Proofs.Lx
/- A text in pieces; digits; the reference's texts of numbers. -/
set_option linter.unusedSimpArgs false
set_option linter.unusedVariables false
namespace Go.Proofs.Lx
open Go.Vm Go.RowKit
attribute [local irreducible] awpArr awpBin awpMake awpAppend awpCvX awpStrOf awpBinX awpSlice awpBS awpStore awpAlloc awpCopy awpIndex awpDraw awpIdxX awpFa awpField awpLookup awpUpdate awpDelete awpClear awpRange awpNext awpEntry awpBuild awpClearS awpIdxL awpTree appB awpIdxO eltA treeA
theorem set_rep (z : AV) (w : List UInt8) (n : Nat) : ∀ done : List (List UInt8), ((done.map strA ++ List.replicate (n + 1) z).set done.length (strA w)) = (done ++ [w]).map strA ++ List.replicate n z
  | [] => rfl
  | d :: r => by
    have := set_rep z w n r
    simp only [List.map_cons, List.cons_append, List.length_cons, List.set_cons_succ]
    rw [this]
def splSpec : Vm.Spec := fun args h Q => ∃ s : List UInt8, s.length ≤ 1073741824 ∧ args = [strA s, strA [44]] ∧ Q (.sl 1 ((splitC s).map strA)) h
def genSpec : Vm.Spec := fun args h Q => ∃ s : List UInt8, s.length ≤ 1073741824 ∧ args = [strA s, strA [44], .v (.int .i64 0), .v (.int .i64 (-1))] ∧ Q (.sl 1 ((splitC s).map strA)) h
theorem plainS : plain (Value.string ByteArray.empty) = true ∨ ∃ cs, Value.string ByteArray.empty = Value.agg cs ∧ cs.all plain = true := .inl rfl
set_option maxRecDepth 20000 in
set_option maxHeartbeats 2000000 in
theorem does_gen : Does Tryd.prog 30 genSpec := by
  refine does_of_awp (good_cons does_cntb (good_cons does_ixt good_nil)) Tryd.func30 rfl (by decide +kernel) (by decide +kernel) ?_
  rintro args h Q ⟨s, hl, rfl, hq⟩
  refine ⟨by simp [Tryd.f30], ?_⟩
  rw [awpFunc_some (by rfl)]
  simp only [strA]
  have h1 : (((ByteArray.mk [44].toArray).size : Nat) : Int) = 1 := by rw [sz_mk]; rfl
  have h0 := sz_mk s
  have hcs := List.count_le_length (a := (44 : UInt8)) (l := s)
  have hsc := splitC_count s
  simp -dsimp only [Vm.G, List.lookup, Nat.reduceAdd, Nat.reduceBEq, Int.reduceBNe, Int.reduceBEq, Nat.reduceLeDiff, q30, str_eql, toList_mk]
  have c0 : (([44] : List UInt8) == ([] : List UInt8)) = false := by decide
  have c1 : decide ((-1 : Int) < 0) = true := by decide
  simp -dsimp only [Vm.G, List.lookup, Nat.reduceAdd, Nat.reduceBEq, Int.reduceBNe, Int.reduceBEq, Nat.reduceLeDiff, q30, c0, c1]
  refine call_one (S := cntbSpec) rfl _ GaL.rfl ⟨s, 44, rfl, ?_⟩
  generalize s.count 44 = k at hcs hsc ⊢
  have w1 : IntKind.i64.wrap (((k : Nat) : Int) + 1) = ((k + 1 : Nat) : Int) := by rw [wrap_i64 (by omega) (by omega)]; simp
  have w2 : IntKind.i64.wrap (((s.length : Nat) : Int) + 1) = ((s.length + 1 : Nat) : Int) := by rw [wrap_i64 (by omega) (by omega)]; simp
  have w3 : (if ((s.length + 1 : Nat) : Int) < ((k + 1 : Nat) : Int) then ((s.length + 1 : Nat) : Int) else ((k + 1 : Nat) : Int)) = ((k + 1 : Nat) : Int) := if_neg (by omega)
  have w4 : IntKind.i64.wrap (((k + 1 : Nat) : Int) - 1) = ((k : Nat) : Int) := by rw [wrap_i64 (by omega) (by omega)]; omega
  simp -dsimp only [Vm.G, List.lookup, Nat.reduceAdd, Nat.reduceBEq, Int.reduceBNe, Int.reduceBEq, Nat.reduceLeDiff, q30, h0, w1, w2, w3]
  refine make_intro ei54 z9 plainS (by omega) (Int.le_refl _) (by omega) (by omega) ?_
  rw [Int.toNat_natCast, cst_string]
  simp -dsimp only [Vm.G, List.lookup, Nat.reduceAdd, Nat.reduceBEq, Int.reduceBNe, Int.reduceBEq, Nat.reduceLeDiff, q30, w4]
  refine awp_loop (fun m s' h' => ∃ (done : List (List UInt8)) (r : List UInt8), splitC s = done ++ splitC r ∧ r.length ≤ s.length ∧ done.length + m = k ∧ h' = h ∧ s' = mk [(0, .v (.string ⟨r.toArray⟩)), (1, .v (.string ⟨[44].toArray⟩)), (2, .v (.int .i64 0)), (3, .v (.int .i64 (k : Nat))), (9, .own true 9 1 ((done).map strA ++ List.replicate (k + 1 - (done.length)) (.v (.string ByteArray.empty)))), (10, .v (.int .i64 (done.length : Nat)))])
    k _ (le_mk _ ?_) ⟨[], s, rfl, Nat.le_refl _, by simp, rfl, rfl⟩ ?_
  · simp only [List.forall_mem_cons, List.not_mem_nil, false_imp_iff, implies_true, and_true]
    try simp -dsimp only [Vm.G, List.lookup, Nat.reduceAdd, Nat.reduceBEq, Int.reduceBNe, Int.reduceBEq, Nat.reduceLeDiff, q30]
    repeat' first | exact Fg.refl _ | exact Fg.nil _ _ _ (by decide) | refine And.intro ?_ ?_
  · rintro m s' h' ⟨done, r, hd, hr, hi, rfl, rfl⟩
    have hrc := splitC_count r
    have hlen := congrArg List.length hd
    rw [List.length_append, hsc] at hlen
    generalize hdl : done.length = i at hi hlen ⊢
    simp -dsimp only [Vm.G, List.lookup, Nat.reduceAdd, Nat.reduceBEq, Int.reduceBNe, Int.reduceBEq, Nat.reduceLeDiff, q30]
    refine cond_intro (fun hcc => ?_) (fun hcc => ?_)
    · have hlt : i < k := by have := of_decide_eq_true hcc; omega
      have hw : IntKind.i64.wrap ((i : Int) + 1) = ((i + 1 : Nat) : Int) := by rw [wrap_i64 (by omega) (by omega)]; simp
      have hm : 44 ∈ r := by
        rcases Nat.lt_or_ge 0 (r.count 44) with h | h
        · exact List.count_pos_iff.1 h
        · omega
      have hp := posB_lt hm
      have hsp := splitC_mem hm
      simp -dsimp only [Vm.G, List.lookup, Nat.reduceAdd, Nat.reduceBEq, Int.reduceBNe, Int.reduceBEq, Nat.reduceLeDiff, q30]
      refine call_one (S := ixsSpec) rfl _ GaL.rfl ⟨r, 44, rfl, ?_⟩
      rw [ixb_mem hm]
      generalize posB 44 r = p at hp hsp ⊢
      have c3 : decide (((p : Nat) : Int) < 0) = false := decide_eq_false (by omega)
      have w5 : IntKind.i64.wrap (((p : Nat) : Int) + 0) = ((p : Nat) : Int) := by rw [wrap_i64 (by omega) (by omega)]; simp
      have w6 : IntKind.i64.wrap (((p : Nat) : Int) + 1) = ((p + 1 : Nat) : Int) := by rw [wrap_i64 (by omega) (by omega)]; simp
      simp -dsimp only [Vm.G, List.lookup, Nat.reduceAdd, Nat.reduceBEq, Int.reduceBNe, Int.reduceBEq, Nat.reduceLeDiff, q30, c3, w5]
      refine to_str (m := p) Tryd.underlying9 (fun _ => rfl) (by omega) ?_
      simp -dsimp only [Vm.G, List.lookup, Nat.reduceAdd, Nat.reduceBEq, Int.reduceBNe, Int.reduceBEq, Nat.reduceLeDiff, q30, w5]
      refine idxO_intro (by omega) (by simp; omega) ?_
      have hsr := set_rep (.v (.string ByteArray.empty)) (r.take p) (k - i) done
      rw [hdl] at hsr
      rw [show k + 1 - i = (k - i) + 1 by omega]
      have hgl : (done.map strA ++ List.replicate (k - i + 1) (AV.v (.string ByteArray.empty)))[i]? = some (.v (.string ByteArray.empty)) := by
        rw [List.getElem?_append_right (by simp; omega)]
        simp [hdl]
      simp -dsimp only [Vm.E, List.lookup, Nat.reduceAdd, Nat.reduceBEq, Int.reduceBNe, Int.reduceBEq, Bool.true_beq, Bool.false_beq, q30, Int.toNat_natCast]
      refine store_elt 9 _ (by simp -dsimp only [Vm.E, List.lookup, Nat.reduceAdd, Nat.reduceBEq, Int.reduceBNe, Int.reduceBEq, Bool.true_beq, Bool.false_beq]) (y := .v (.string ByteArray.empty)) hgl rfl rfl (by omega) rfl ?_
      simp only [AV.cells, putCells, reCell, List.take_zero, List.nil_append, List.length_cons, List.length_nil, Nat.zero_add, Nat.reduceAdd, List.drop_succ_cons, List.drop_zero, List.append_nil, List.drop_nil, List.head?_cons, Option.getD_some, List.cons_append]
      have hsr : (done.map strA ++ List.replicate (k - i + 1) (AV.v (.string ByteArray.empty))).set i (.v (.string ⟨(r.take p).toArray⟩)) = (done ++ [r.take p]).map strA ++ List.replicate (k - i) (.v (.string ByteArray.empty)) := hsr
      rw [hsr]
      simp -dsimp only [Vm.G, List.lookup, Nat.reduceAdd, Nat.reduceBEq, Int.reduceBNe, Int.reduceBEq, Nat.reduceLeDiff, q30, h1, w6]
      refine from_str (l := p + 1) Tryd.underlying9 rfl (by omega) ?_
      simp -dsimp only [Vm.G, List.lookup, Nat.reduceAdd, Nat.reduceBEq, Int.reduceBNe, Int.reduceBEq, Nat.reduceLeDiff, q30, w6]
      refine kept_intro ⟨k - (i + 1), by omega, _, le_mk [(0, .v (.string ⟨(r.drop (p + 1)).toArray⟩)), (1, .v (.string ⟨[44].toArray⟩)), (2, .v (.int .i64 0)), (3, .v (.int .i64 (k : Nat))), (9, .own true 9 1 ((done ++ [r.take p]).map strA ++ List.replicate (k + 1 - (i + 1)) (.v (.string ByteArray.empty)))), (10, .v (.int .i64 (i + 1 : Nat)))] ?_, done ++ [r.take p], r.drop (p + 1), by rw [hd, hsp]; simp, by rw [List.length_drop]; omega, by rw [List.length_append, List.length_singleton]; omega, rfl, by rw [List.length_append, List.length_singleton, hdl]⟩
      simp only [List.forall_mem_cons, List.not_mem_nil, false_imp_iff, implies_true, and_true, hw, show k + 1 - (i + 1) = k - i by omega]
      try simp -dsimp only [Vm.G, List.lookup, Nat.reduceAdd, Nat.reduceBEq, Int.reduceBNe, Int.reduceBEq, Nat.reduceLeDiff, q30, hw, show k + 1 - (i + 1) = k - i by omega]
      repeat' first | exact Fg.refl _ | exact Fg.nil _ _ _ (by decide) | refine And.intro ?_ ?_
    · have hge : ¬ i < k := by have := of_decide_eq_false hcc; omega
      have hik : i = k := by omega
      have hnm : 44 ∉ r := fun hm => by
        have := List.count_pos_iff.2 hm
        omega
      have hfin : done ++ [r] = splitC s := by rw [hd, splitC_none hnm]
      have hsr := set_rep (.v (.string ByteArray.empty)) r 0 done
      rw [hdl] at hsr
      rw [show k + 1 - i = 0 + 1 by omega]
      have hgl : (done.map strA ++ List.replicate (0 + 1) (AV.v (.string ByteArray.empty)))[i]? = some (.v (.string ByteArray.empty)) := by
        rw [List.getElem?_append_right (by simp; omega)]
        simp [hdl]
      have w7 : IntKind.i64.wrap (((i : Nat) : Int) + 1) = ((i + 1 : Nat) : Int) := by rw [wrap_i64 (by omega) (by omega)]; simp
      have hsl : ((splitC s).map strA).length = i + 1 := by rw [List.length_map]; omega
      simp -dsimp only [Vm.G, List.lookup, Nat.reduceAdd, Nat.reduceBEq, Int.reduceBNe, Int.reduceBEq, Nat.reduceLeDiff, q30]
      refine idxO_intro (by omega) (by simp; omega) ?_
      simp -dsimp only [Vm.E, List.lookup, Nat.reduceAdd, Nat.reduceBEq, Int.reduceBNe, Int.reduceBEq, Bool.true_beq, Bool.false_beq, q30, Int.toNat_natCast]
      refine store_elt 9 _ (by simp -dsimp only [Vm.E, List.lookup, Nat.reduceAdd, Nat.reduceBEq, Int.reduceBNe, Int.reduceBEq, Bool.true_beq, Bool.false_beq]) (y := .v (.string ByteArray.empty)) hgl rfl rfl (by omega) rfl ?_
      simp only [AV.cells, putCells, reCell, List.take_zero, List.nil_append, List.length_cons, List.length_nil, Nat.zero_add, Nat.reduceAdd, List.drop_succ_cons, List.drop_zero, List.append_nil, List.drop_nil, List.head?_cons, Option.getD_some, List.cons_append]
      have hsr : (done.map strA ++ List.replicate (0 + 1) (AV.v (.string ByteArray.empty))).set i (.v (.string ⟨r.toArray⟩)) = (splitC s).map strA := by rw [← hfin]; have h9 := hsr; rw [List.replicate_zero, List.append_nil] at h9; exact h9
      rw [hsr]
      simp -dsimp only [Vm.G, List.lookup, Nat.reduceAdd, Nat.reduceBEq, Int.reduceBNe, Int.reduceBEq, Nat.reduceLeDiff, q30, w7]
      refine slice_h es54 (by omega) (by omega) ?_
      rw [Int.toNat_natCast, List.take_of_length_le (by omega)]
      simp -dsimp only [Vm.G, List.lookup, Nat.reduceAdd, Nat.reduceBEq, Int.reduceBNe, Int.reduceBEq, Nat.reduceLeDiff, q30]
      exact hq
theorem does_spl : Does Tryd.prog 20 splSpec := by
  refine does_of_awp (good_cons does_gen good_nil) Tryd.func20 rfl (by decide +kernel) (by decide +kernel) ?_
  rintro args h Q ⟨s, hl, rfl, hq⟩
  refine ⟨by simp [Tryd.f20], ?_⟩
  rw [awpFunc_some (by rfl)]
  simp -dsimp only [Vm.G, List.lookup, Nat.reduceAdd, Nat.reduceBEq, Int.reduceBNe, Int.reduceBEq, Nat.reduceLeDiff, q20]
  refine call_one (S := genSpec) rfl _ GaL.rfl ⟨s, hl, rfl, ?_⟩
  simp -dsimp only [Vm.G, List.lookup, Nat.reduceAdd, Nat.reduceBEq, Int.reduceBNe, Int.reduceBEq, Nat.reduceLeDiff, q20]
  exact hq
theorem digF_snoc (k : Nat) {m : Nat} (h : ¬ m < 10) : digF (k + 1) m = digF k (m / 10) ++ [UInt8.ofNat (48 + m % 10)] := by
  conv => lhs; unfold digF
  rw [if_neg h]
theorem digF_one (k : Nat) {m : Nat} (h : m < 10) : digF k m = [UInt8.ofNat (48 + m)] := by
  cases k with
  | zero => unfold digF; rw [Nat.mod_eq_of_lt h]
  | succ k => unfold digF; rw [if_pos h]
/-- Any fuel that is enough. -/
theorem digF_any : ∀ (k j m : Nat), m < 10 ^ (k + 1) → m < 10 ^ (j + 1) → digF k m = digF j m
  | 0, j, m, h, _ => by rw [digF_one 0 (by simpa using h), digF_one j (by simpa using h)]
  | k + 1, 0, m, _, h => by rw [digF_one 0 (by simpa using h), digF_one (k + 1) (by simpa using h)]
  | k + 1, j + 1, m, h1, h2 => by
    by_cases h : m < 10
    · rw [digF_one _ h, digF_one _ h]
    · rw [digF_snoc k h, digF_snoc j h, digF_any k j (m / 10) (by rw [Nat.pow_succ] at h1; omega) (by rw [Nat.pow_succ] at h2; omega)]
theorem digN_step {m : Nat} (h : ¬ m < 10) (hm : m ≤ 9223372036854775808) : digN m = digN (m / 10) ++ [UInt8.ofNat (48 + m % 10)] := by
  unfold digN
  rw [digF_snoc 19 h, digF_any 19 20 (m / 10) (by omega) (by omega)]
theorem digN_one {m : Nat} (h : m < 10) : digN m = [UInt8.ofNat (48 + m)] := digF_one 20 h
def revSpec : Vm.Spec := fun args h Q => ∃ m : Nat, m ≤ 9223372036854775808 ∧ args = [.v (.int .i64 (-(m : Int)))] ∧ Q (.own true 5 1 ((digN m).reverse.map encB)) h
theorem digV (m : Nat) : IntKind.u8.wrap (IntKind.i64.wrap (48 - (-(m : Int)).tmod 10)) = ((UInt8.ofNat (48 + m % 10)).toNat : Int) := by
  have h : (-(m : Int)).tmod 10 = -((m % 10 : Nat) : Int) := by rw [Int.neg_tmod]; rfl
  have hlt : m % 10 < 10 := Nat.mod_lt _ (by decide)
  rw [h, dig_char hlt, wrap_i64 (by omega) (by omega)]
  unfold IntKind.wrap
  simp [IntKind.bits, IntKind.signed]
  omega
theorem quoV (m : Nat) (hm : m ≤ 9223372036854775808) : IntKind.i64.wrap ((-(m : Int)).tdiv 10) = -((m / 10 : Nat) : Int) := by
  have h : (-(m : Int)).tdiv 10 = -((m / 10 : Nat) : Int) := by rw [Int.neg_tdiv]; rfl
  rw [h, wrap_i64 (by omega) (by omega)]
set_option maxHeartbeats 2000000 in
theorem does_rev : Does Tryd.prog 35 revSpec := by
  refine does_of_awp good_nil Tryd.func35 rfl (by decide +kernel) (by decide +kernel) ?_
  rintro args h Q ⟨m, hm, rfl, hq⟩
  refine ⟨by simp [Tryd.f35], ?_⟩
  rw [awpFunc_some (by rfl)]
  simp -dsimp only [Vm.G, List.lookup, Nat.reduceAdd, Nat.reduceBEq, Int.reduceBNe, Int.reduceBEq, Nat.reduceLeDiff, q35]
  refine rem_intro (by decide) ?_
  have hv := digV m
  have hz := quoV m hm
  simp -dsimp only [Vm.G, List.lookup, Nat.reduceAdd, Nat.reduceBEq, Int.reduceBNe, Int.reduceBEq, Nat.reduceLeDiff, q35, hv]
  refine bs_intro zr5 (by decide) (by decide) rfl rfl (by simp [solid, AV.cells]) ?_
  simp -dsimp only [Vm.G, List.lookup, Nat.reduceAdd, Nat.reduceBEq, Int.reduceBNe, Int.reduceBEq, Nat.reduceLeDiff, q35]
  refine quo_intro (by decide) ?_
  rw [hz]
  simp -dsimp only [Vm.G, List.lookup, Nat.reduceAdd, Nat.reduceBEq, Int.reduceBNe, Int.reduceBEq, Nat.reduceLeDiff, q35]
  refine awp_loop (fun q s h' => ∃ (j : Nat) (l : List UInt8), j ≤ q ∧ j ≤ 9223372036854775808 ∧ h' = h ∧ (j = 0 → l = (digN m).reverse) ∧ (j ≠ 0 → l ++ (digN j).reverse = (digN m).reverse) ∧ l.length ≤ 30 ∧ s = mk [(0, .v (.int .i64 (-(j : Int)))), (3, .own true 5 1 (l.map encB))])
    m _ (le_mk _ ?_) ⟨m / 10, [UInt8.ofNat (48 + m % 10)], by omega, by omega, rfl, fun h => ?_, fun h => ?_, by simp, rfl⟩ ?_
  · simp only [List.forall_mem_cons, List.not_mem_nil, false_imp_iff, implies_true, and_true, List.map_cons, List.map_nil, encB]
    try simp -dsimp only [Vm.G, List.lookup, Nat.reduceAdd, Nat.reduceBEq, Int.reduceBNe, Int.reduceBEq, Nat.reduceLeDiff, q35, List.map_cons, List.map_nil, encB]
    repeat' first | exact Fg.refl _ | exact Fg.nil _ _ _ (by decide) | refine And.intro ?_ ?_
  · rw [digN_one (by omega), Nat.mod_eq_of_lt (by omega)]; rfl
  · rw [digN_step (by omega) hm]; simp
  · rintro q s h' ⟨j, l, hj, hj2, rfl, hl0, hl1, hll, rfl⟩
    simp -dsimp only [Vm.G, List.lookup, Nat.reduceAdd, Nat.reduceBEq, Int.reduceBNe, Int.reduceBEq, Nat.reduceLeDiff, q35]
    refine cond_intro (fun hcc => ?_) (fun hcc => ?_)
    · have hne : j ≠ 0 := by have : -(j : Int) ≠ 0 := by simpa using hcc
                             omega
      have hl1 := hl1 hne
      have hlen := congrArg List.length hl1
      have hd := digN_len hm
      rw [List.length_append, List.length_reverse, List.length_reverse] at hlen
      have hp := digF_pos 20 j
      have hp : 1 ≤ (digN j).length := hp
      have hv := digV j
      have hz := quoV j hj2
      simp -dsimp only [Vm.G, List.lookup, Nat.reduceAdd, Nat.reduceBEq, Int.reduceBNe, Int.reduceBEq, Nat.reduceLeDiff, q35]
      refine rem_intro (by decide) ?_
      simp -dsimp only [Vm.G, List.lookup, Nat.reduceAdd, Nat.reduceBEq, Int.reduceBNe, Int.reduceBEq, Nat.reduceLeDiff, q35, hv]
      refine bs_intro zr5 (by decide) (by decide) rfl rfl (by simp [solid, AV.cells]) ?_
      simp -dsimp only [Vm.G, List.lookup, Nat.reduceAdd, Nat.reduceBEq, Int.reduceBNe, Int.reduceBEq, Nat.reduceLeDiff, q35]
      refine app_sl Tryd.underlying46 (by simp [AV.cells]) (by simp; omega) ?_
      simp -dsimp only [Vm.G, List.lookup, Nat.reduceAdd, Nat.reduceBEq, Int.reduceBNe, Int.reduceBEq, Nat.reduceLeDiff, q35]
      refine quo_intro (by decide) ?_
      rw [hz]
      simp -dsimp only [Vm.G, List.lookup, Nat.reduceAdd, Nat.reduceBEq, Int.reduceBNe, Int.reduceBEq, Nat.reduceLeDiff, q35]
      refine kept_intro ⟨q - 1, by omega, _, le_mk [(0, .v (.int .i64 (-((j / 10 : Nat) : Int)))), (3, .own true 5 1 ((l ++ [UInt8.ofNat (48 + j % 10)]).map encB))] ?_, j / 10, l ++ [UInt8.ofNat (48 + j % 10)], by omega, by omega, rfl, fun h => ?_, fun h => ?_, by simp; omega, rfl⟩
      · simp only [List.forall_mem_cons, List.not_mem_nil, false_imp_iff, implies_true, and_true, List.map_append, List.map_cons, List.map_nil, encB]
        try simp -dsimp only [Vm.G, List.lookup, Nat.reduceAdd, Nat.reduceBEq, Int.reduceBNe, Int.reduceBEq, Nat.reduceLeDiff, q35, List.map_append, List.map_cons, List.map_nil, encB]
        repeat' first | exact Fg.refl _ | exact Fg.nil _ _ _ (by decide) | refine And.intro ?_ ?_
      · rw [← hl1, digN_one (by omega), Nat.mod_eq_of_lt (by omega)]; rfl
      · rw [← hl1, digN_step (m := j) (by omega) hj2]; simp
    · have hz : j = 0 := by have : -(j : Int) = 0 := by simpa using hcc
                            omega
      rw [hl0 hz]
      simp -dsimp only [Vm.G, List.lookup, Nat.reduceAdd, Nat.reduceBEq, Int.reduceBNe, Int.reduceBEq, Nat.reduceLeDiff, q35]
      exact hq
def rdigSpec : Vm.Spec := fun args h Q => ∃ m : Nat, m ≤ 9223372036854775807 ∧ args = [.v (.int .i64 (m : Int))] ∧ Q (strA (digN m)) h
theorem digT {i : Nat} (h : i < 10) : (([48, 49, 50, 51, 52, 53, 54, 55, 56, 57] : List UInt8).take (i + 1)).drop i = [UInt8.ofNat (48 + i)] := by
  match i, h with
  | 0, _ => rfl
  | 1, _ => rfl
  | 2, _ => rfl
  | 3, _ => rfl
  | 4, _ => rfl
  | 5, _ => rfl
  | 6, _ => rfl
  | 7, _ => rfl
  | 8, _ => rfl
  | 9, _ => rfl
  | i + 10, h => omega
def rdigK (k : Nat) : Vm.Spec := fun args h Q => ∃ m : Nat, m ≤ 9223372036854775807 ∧ m < 10 ^ k ∧ args = [.v (.int .i64 (m : Int))] ∧ Q (strA (digN m)) h
set_option maxHeartbeats 1000000 in
theorem does_rdigK : ∀ k : Nat, Does Tryd.prog 32 (rdigK (k + 1)) := by
  intro k
  induction k with
  | zero =>
    refine does_of_awp good_nil Tryd.func32 rfl (by decide +kernel) (by decide +kernel) ?_
    rintro args h Q ⟨m, hm, hk, rfl, hq⟩
    refine ⟨by simp [Tryd.f32], ?_⟩
    rw [awpFunc_some (by rfl)]
    have hlt : m < 10 := by simpa using hk
    have c1 : decide ((m : Int) ≥ 10) = false := decide_eq_false (by omega)
    rw [digN_one hlt] at hq
    have hmm : m % 10 = m := Nat.mod_eq_of_lt hlt
    have h10 : m % 10 < 10 := Nat.mod_lt _ (by decide)
    have hr : ((m : Int)).tmod 10 = ((m % 10 : Nat) : Int) := rfl
    have hq2 : IntKind.i64.wrap (((m : Int)).tdiv 10) = ((m / 10 : Nat) : Int) := by rw [show ((m : Int)).tdiv 10 = ((m / 10 : Nat) : Int) from rfl, wrap_i64 (by omega) (by omega)]
    have hw : IntKind.i64.wrap (((m % 10 : Nat) : Int) + 1) = ((m % 10 + 1 : Nat) : Int) := by rw [wrap_i64 (by omega) (by omega)]; simp
    have hT := digT h10
    simp -dsimp only [Vm.G, List.lookup, Nat.reduceAdd, Nat.reduceBEq, Int.reduceBNe, Int.reduceBEq, Nat.reduceLeDiff, q32]
    refine rem_intro (by decide) ?_
    rw [hr]
    simp -dsimp only [Vm.G, List.lookup, Nat.reduceAdd, Nat.reduceBEq, Int.reduceBNe, Int.reduceBEq, Nat.reduceLeDiff, q32]
    refine rem_intro (by decide) ?_
    rw [hr]
    simp -dsimp only [Vm.G, List.lookup, Nat.reduceAdd, Nat.reduceBEq, Int.reduceBNe, Int.reduceBEq, Nat.reduceLeDiff, q32, hw]
    refine mid_str (s := [48, 49, 50, 51, 52, 53, 54, 55, 56, 57]) (l := m % 10) (m := m % 10 + 1) Tryd.underlying9 rfl (fun _ => rfl) (by omega) (by simp; omega) ?_
    rw [hT]
    simp -dsimp only [Vm.G, List.lookup, Nat.reduceAdd, Nat.reduceBEq, Int.reduceBNe, Int.reduceBEq, Nat.reduceLeDiff, q32]
    rw [hmm]
    simp -dsimp only [Vm.G, List.lookup, Nat.reduceAdd, Nat.reduceBEq, Int.reduceBNe, Int.reduceBEq, Nat.reduceLeDiff, q32, c1]
    exact hq
  | succ k ih =>
    refine does_of_awp (good_cons ih good_nil) Tryd.func32 rfl (by decide +kernel) (by decide +kernel) ?_
    rintro args h Q ⟨m, hm, hk, rfl, hq⟩
    refine ⟨by simp [Tryd.f32], ?_⟩
    rw [awpFunc_some (by rfl)]
    have h10 : m % 10 < 10 := Nat.mod_lt _ (by decide)
    have hr : ((m : Int)).tmod 10 = ((m % 10 : Nat) : Int) := rfl
    have hq2 : IntKind.i64.wrap (((m : Int)).tdiv 10) = ((m / 10 : Nat) : Int) := by rw [show ((m : Int)).tdiv 10 = ((m / 10 : Nat) : Int) from rfl, wrap_i64 (by omega) (by omega)]
    have hw : IntKind.i64.wrap (((m % 10 : Nat) : Int) + 1) = ((m % 10 + 1 : Nat) : Int) := by rw [wrap_i64 (by omega) (by omega)]; simp
    have hT := digT h10
    simp -dsimp only [Vm.G, List.lookup, Nat.reduceAdd, Nat.reduceBEq, Int.reduceBNe, Int.reduceBEq, Nat.reduceLeDiff, q32]
    refine rem_intro (by decide) ?_
    rw [hr]
    simp -dsimp only [Vm.G, List.lookup, Nat.reduceAdd, Nat.reduceBEq, Int.reduceBNe, Int.reduceBEq, Nat.reduceLeDiff, q32]
    refine rem_intro (by decide) ?_
    rw [hr]
    simp -dsimp only [Vm.G, List.lookup, Nat.reduceAdd, Nat.reduceBEq, Int.reduceBNe, Int.reduceBEq, Nat.reduceLeDiff, q32, hw]
    refine mid_str (s := [48, 49, 50, 51, 52, 53, 54, 55, 56, 57]) (l := m % 10) (m := m % 10 + 1) Tryd.underlying9 rfl (fun _ => rfl) (by omega) (by simp; omega) ?_
    rw [hT]
    simp -dsimp only [Vm.G, List.lookup, Nat.reduceAdd, Nat.reduceBEq, Int.reduceBNe, Int.reduceBEq, Nat.reduceLeDiff, q32]
    by_cases hlt : m < 10
    · have c1 : decide ((m : Int) ≥ 10) = false := decide_eq_false (by omega)
      rw [digN_one hlt] at hq
      have hmm : m % 10 = m := Nat.mod_eq_of_lt hlt
      rw [hmm]
      simp -dsimp only [Vm.G, List.lookup, Nat.reduceAdd, Nat.reduceBEq, Int.reduceBNe, Int.reduceBEq, Nat.reduceLeDiff, q32, c1]
      exact hq
    · have c1 : decide ((m : Int) ≥ 10) = true := decide_eq_true (by omega)
      rw [digN_step hlt (by omega)] at hq
      have hdl := digN_len (m := m / 10) (by omega)
      simp -dsimp only [Vm.G, List.lookup, Nat.reduceAdd, Nat.reduceBEq, Int.reduceBNe, Int.reduceBEq, Nat.reduceLeDiff, q32, c1]
      refine quo_intro (by decide) ?_
      rw [hq2]
      simp -dsimp only [Vm.G, List.lookup, Nat.reduceAdd, Nat.reduceBEq, Int.reduceBNe, Int.reduceBEq, Nat.reduceLeDiff, q32]
      refine call_one (S := rdigK (k + 1)) rfl _ GaL.rfl ⟨m / 10, by omega, by rw [Nat.pow_succ] at hk; omega, rfl, ?_⟩
      simp only [strA]
      simp -dsimp only [Vm.G, List.lookup, Nat.reduceAdd, Nat.reduceBEq, Int.reduceBNe, Int.reduceBEq, Nat.reduceLeDiff, q32]
      refine add_str (by simp; omega) ?_
      simp -dsimp only [Vm.G, List.lookup, Nat.reduceAdd, Nat.reduceBEq, Int.reduceBNe, Int.reduceBEq, Nat.reduceLeDiff, q32]
      exact hq
theorem does_rdig : Does Tryd.prog 32 rdigSpec :=
  ⟨(does_rdigK 18).1, fun args h Q ⟨m, hm, ha, hq⟩ => (does_rdigK 18).2 args h Q ⟨m, hm, by omega, ha, hq⟩⟩
def rtextSpec : Vm.Spec := fun args h Q => ∃ n : Int, I64 n ∧ args = [.v (.int .i64 n)] ∧ Q (strA (textN n)) h
set_option maxHeartbeats 1000000 in
theorem does_rtext : Does Tryd.prog 24 rtextSpec := by
  refine does_of_awp (good_cons does_rdig good_nil) Tryd.func24 rfl (by decide +kernel) (by decide +kernel) ?_
  rintro args h Q ⟨n, hn, rfl, hq⟩
  refine ⟨by simp [Tryd.f24], ?_⟩
  rw [awpFunc_some (by rfl)]
  obtain ⟨hn1, hn2⟩ := hn
  unfold textN at hq
  simp only [strA] at hq
  simp -dsimp only [Vm.G, List.lookup, Nat.reduceAdd, Nat.reduceBEq, Int.reduceBNe, Int.reduceBEq, Nat.reduceLeDiff, q24]
  by_cases h0 : n ≥ 0
  · have c1 : decide (n ≥ 0) = true := decide_eq_true h0
    rw [if_neg (by omega)] at hq
    have e1 : n = ((n.natAbs : Nat) : Int) := by omega
    simp -dsimp only [Vm.G, List.lookup, Nat.reduceAdd, Nat.reduceBEq, Int.reduceBNe, Int.reduceBEq, Nat.reduceLeDiff, q24, c1]
    refine call_one (S := rdigSpec) rfl _ GaL.rfl ⟨n.natAbs, by omega, by rw [← e1], ?_⟩
    simp only [strA]
    simp -dsimp only [Vm.G, List.lookup, Nat.reduceAdd, Nat.reduceBEq, Int.reduceBNe, Int.reduceBEq, Nat.reduceLeDiff, q24]
    exact hq
  · have c1 : decide (n ≥ 0) = false := decide_eq_false h0
    rw [if_pos (by omega)] at hq
    simp -dsimp only [Vm.G, List.lookup, Nat.reduceAdd, Nat.reduceBEq, Int.reduceBNe, Int.reduceBEq, Nat.reduceLeDiff, q24, c1]
    by_cases h9 : n > -10
    · have c2 : decide (n > -10) = true := decide_eq_true h9
      have e1 : IntKind.i64.wrap (0 - n) = ((n.natAbs : Nat) : Int) := by rw [wrap_i64 (by omega) (by omega)]; omega
      have hdl := digN_len (m := n.natAbs) (by omega)
      simp -dsimp only [Vm.G, List.lookup, Nat.reduceAdd, Nat.reduceBEq, Int.reduceBNe, Int.reduceBEq, Nat.reduceLeDiff, q24, c2, e1]
      refine call_one (S := rdigSpec) rfl _ GaL.rfl ⟨n.natAbs, by omega, rfl, ?_⟩
      simp only [strA]
      simp -dsimp only [Vm.G, List.lookup, Nat.reduceAdd, Nat.reduceBEq, Int.reduceBNe, Int.reduceBEq, Nat.reduceLeDiff, q24]
      refine add_str (a := [45]) (by simp; omega) ?_
      simp -dsimp only [Vm.G, List.lookup, Nat.reduceAdd, Nat.reduceBEq, Int.reduceBNe, Int.reduceBEq, Nat.reduceLeDiff, q24]
      exact hq
    · have c2 : decide (n > -10) = false := decide_eq_false h9
      have hne : ¬ n.natAbs < 10 := by omega
      have hd := digN_step hne (by omega)
      rw [hd] at hq
      have h10 : n.natAbs % 10 < 10 := Nat.mod_lt _ (by decide)
      have e0 : n = -((n.natAbs : Nat) : Int) := by omega
      have e1 : IntKind.i64.wrap (n.tdiv 10) = -((n.natAbs / 10 : Nat) : Int) := by
        have := quoV n.natAbs (by omega)
        rw [← e0] at this
        exact this
      have e2 : n.tmod 10 = -((n.natAbs % 10 : Nat) : Int) := by
        have h : (-((n.natAbs : Nat) : Int)).tmod 10 = -((n.natAbs % 10 : Nat) : Int) := by rw [Int.neg_tmod]; rfl
        rw [← e0] at h
        exact h
      have e3 : IntKind.i64.wrap (0 - -((n.natAbs / 10 : Nat) : Int)) = ((n.natAbs / 10 : Nat) : Int) := by rw [wrap_i64 (by omega) (by omega)]; omega
      have e4 : IntKind.i64.wrap (0 - -((n.natAbs % 10 : Nat) : Int)) = ((n.natAbs % 10 : Nat) : Int) := by rw [wrap_i64 (by omega) (by omega)]; omega
      have hdl := digN_len (m := n.natAbs / 10) (by omega)
      have hd1 := digN_one h10
      have hd2 : (digN (n.natAbs % 10)).length = 1 := by rw [hd1]; rfl
      simp -dsimp only [Vm.G, List.lookup, Nat.reduceAdd, Nat.reduceBEq, Int.reduceBNe, Int.reduceBEq, Nat.reduceLeDiff, q24, c2]
      refine quo_intro (by decide) ?_
      rw [e1]
      simp -dsimp only [Vm.G, List.lookup, Nat.reduceAdd, Nat.reduceBEq, Int.reduceBNe, Int.reduceBEq, Nat.reduceLeDiff, q24, e3]
      refine call_one (S := rdigSpec) rfl _ GaL.rfl ⟨n.natAbs / 10, by omega, rfl, ?_⟩
      simp only [strA]
      simp -dsimp only [Vm.G, List.lookup, Nat.reduceAdd, Nat.reduceBEq, Int.reduceBNe, Int.reduceBEq, Nat.reduceLeDiff, q24]
      refine add_str (a := [45]) (by simp; omega) ?_
      simp -dsimp only [Vm.G, List.lookup, Nat.reduceAdd, Nat.reduceBEq, Int.reduceBNe, Int.reduceBEq, Nat.reduceLeDiff, q24]
      refine rem_intro (by decide) ?_
      rw [e2]
      simp -dsimp only [Vm.G, List.lookup, Nat.reduceAdd, Nat.reduceBEq, Int.reduceBNe, Int.reduceBEq, Nat.reduceLeDiff, q24, e4]
      refine call_one (S := rdigSpec) rfl _ GaL.rfl ⟨n.natAbs % 10, by omega, rfl, ?_⟩
      simp only [strA]
      simp -dsimp only [Vm.G, List.lookup, Nat.reduceAdd, Nat.reduceBEq, Int.reduceBNe, Int.reduceBEq, Nat.reduceLeDiff, q24]
      refine add_str (by simp; omega) ?_
      rw [hd1]
      simp -dsimp only [Vm.G, List.lookup, Nat.reduceAdd, Nat.reduceBEq, Int.reduceBNe, Int.reduceBEq, Nat.reduceLeDiff, q24]
      simpa using hq
end Go.Proofs.Lx
/- Rows: a word's number, a line's row, the reference's. -/
set_option linter.unusedSimpArgs false
set_option linter.unusedVariables false
namespace Go.Proofs.Lx
open Go.Vm Go.RowKit
attribute [local irreducible] awpArr awpBin awpMake awpAppend awpCvX awpStrOf awpBinX awpSlice awpBS awpStore awpAlloc awpCopy awpIndex awpDraw awpIdxX awpFa awpField awpLookup awpUpdate awpDelete awpClear awpRange awpNext awpEntry awpBuild awpClearS awpIdxL awpTree appB awpIdxO eltA treeA
def iv (n : Int) : AV := .v (.int .i64 n)
def rwCells (r : Rw) : List AV := [.v (.int .i64 r.id), .v (.int .i64 r.year), .v (.int .i64 r.kind), .v (.int .i64 r.fund), .v (.int .i64 r.obj), .v (.int .i64 r.amt)]
def rwAv (r : Rw) : AV := .agg (rwCells r)
theorem flat_rw {l : List Rw} : ∀ x ∈ l.map rwAv, x.cells.length = 6 := fun x hx => by obtain ⟨p, -, rfl⟩ := List.mem_map.1 hx; rfl
def numSpec (f : List UInt8 → Int) : Vm.Spec := fun args h Q => ∃ w : List UInt8, w.length ≤ 1073741824 ∧ args = [strA w] ∧ Q (iv (f w)) h
theorem numP_yes {w : List UInt8} (h : w.head? = some 45) : numP w = ((w.drop 1).take 19).foldl stepP 0 := by
  cases w with
  | nil => cases h
  | cons a r => cases h; rfl
theorem numP_no {w : List UInt8} (h : ¬ w.head? = some 45) : numP w = w64 (-((w.take 19).foldl stepP 0)) := by
  unfold numP
  split
  · exact absurd rfl h
  · rfl
theorem numR_yes {w : List UInt8} (h : w.head? = some 45) : numR w = if w.length ≤ 20 then (w.drop 1).foldl stepR 0 else 0 := by
  cases w with
  | nil => cases h
  | cons a r => cases h; rfl
theorem numR_no {w : List UInt8} (h : ¬ w.head? = some 45) : numR w = w64 (-(if w.length ≤ 20 then w.foldl stepR 0 else 0)) := by
  unfold numR
  split
  · exact absurd rfl h
  · rfl
theorem subV (c : UInt8) : IntKind.u8.wrap ((c.toNat : Int) - 48) = ((c - 48 : UInt8).toNat : Int) := by
  rw [UInt8.toNat_sub]
  unfold IntKind.wrap
  have := c.toNat_lt
  simp [IntKind.bits, IntKind.signed]
  omega
theorem u8_in64 (c : UInt8) : IntKind.i64.wrap (c.toNat : Int) = (c.toNat : Int) := by
  have := c.toNat_lt
  rw [wrap_i64 (by omega) (by omega)]
theorem fold_take {step : Int → UInt8 → Int} {l : List UInt8} {i : Nat} (hi : i < l.length) : (l.take (i + 1)).foldl step 0 = step ((l.take i).foldl step 0) l[i] := by
  rw [List.take_add_one, List.getElem?_eq_getElem hi, List.foldl_append]; rfl
set_option maxHeartbeats 2000000 in
theorem does_numP : Does Tryd.prog 21 (numSpec numP) := by
  refine does_of_awp (good_cons does_cutP good_nil) Tryd.func21 rfl (by decide +kernel) (by decide +kernel) ?_
  rintro args h Q ⟨w, hl, rfl, hq⟩
  refine ⟨by simp [Tryd.f21], ?_⟩
  rw [awpFunc_some (by rfl)]
  simp only [iv] at hq
  simp -dsimp only [Vm.G, List.lookup, Nat.reduceAdd, Nat.reduceBEq, Int.reduceBNe, Int.reduceBEq, Nat.reduceLeDiff, q21]
  refine call_one (S := cutPSpec) rfl _ GaL.rfl ⟨w, 45, rfl, ?_⟩
  have hrest : ∃ v, v = (if w.head? = some 45 then w.drop 1 else w) := ⟨_, rfl⟩
  rcases hrest with ⟨v, hv⟩
  rw [← hv]
  have hvl : v.length ≤ w.length := by
    rw [hv]; split
    · rw [List.length_drop]; omega
    · exact Nat.le_refl _
  have hsz := sz_mk v
  simp only [strA]
  have hmin : (if (19 : Int) < ((v.length : Nat) : Int) then (19 : Int) else ((v.length : Nat) : Int)) = ((min v.length 19 : Nat) : Int) := by
    by_cases h : 19 < v.length
    · rw [if_pos (by omega), Nat.min_eq_right (by omega)]; rfl
    · rw [if_neg (by omega), Nat.min_eq_left (by omega)]
  have htk : v.take (min v.length 19) = v.take 19 := by
    by_cases h : 19 < v.length
    · rw [Nat.min_eq_right (by omega)]
    · rw [Nat.min_eq_left (by omega), List.take_of_length_le (Nat.le_refl _), List.take_of_length_le (by omega)]
  have hK : min v.length 19 ≤ v.length := Nat.min_le_left _ _
  generalize min v.length 19 = K at hmin htk hK
  simp -dsimp only [Vm.G, List.lookup, Nat.reduceAdd, Nat.reduceBEq, Int.reduceBNe, Int.reduceBEq, Nat.reduceLeDiff, q21, hsz, hmin]
  refine awp_loop (fun m s h' => ∃ i : Nat, i + m = K ∧ h' = h ∧ s = mk [(3, .v (.string ⟨v.toArray⟩)), (4, .v (.bool (w.head? == some 45))), (5, .v (.int .i64 ((v.take i).foldl stepP 0))), (14, .v (.int .i64 (K : Nat))), (15, .v (.int .i64 (i : Nat)))])
    K _ (le_mk _ ?_) ⟨0, by omega, rfl, rfl⟩ ?_
  · simp only [List.forall_mem_cons, List.not_mem_nil, false_imp_iff, implies_true, and_true]
    try simp -dsimp only [Vm.G, List.lookup, Nat.reduceAdd, Nat.reduceBEq, Int.reduceBNe, Int.reduceBEq, Nat.reduceLeDiff, q21]
    repeat' first | exact Fg.refl _ | exact Fg.nil _ _ _ (by decide) | refine And.intro ?_ ?_
  · rintro m s h' ⟨i, hi, rfl, rfl⟩
    simp -dsimp only [Vm.G, List.lookup, Nat.reduceAdd, Nat.reduceBEq, Int.reduceBNe, Int.reduceBEq, Nat.reduceLeDiff, q21]
    refine cond_intro (fun hcc => ?_) (fun hcc => ?_)
    · have hlt : i < K := by have := of_decide_eq_true hcc; omega
      have hiv : i < v.length := by omega
      have hw : IntKind.i64.wrap ((i : Int) + 1) = ((i + 1 : Nat) : Int) := by rw [wrap_i64 (by omega) (by omega)]; simp
      have hf := fold_take (step := stepP) hiv
      have hgd : v[((i : Nat) : Int).toNat]? = some v[i] := by rw [Int.toNat_natCast, List.getElem?_eq_getElem hiv]
      generalize v[i] = c at hf hgd
      generalize (v.take i).foldl stepP 0 = n at hf ⊢
      have hst : IntKind.i64.wrap (IntKind.i64.wrap (10 * n) - ((c - 48 : UInt8).toNat : Int)) = stepP n c := rfl
      have h1 := subV c
      have h2 := u8_in64 (c - 48)
      simp -dsimp only [Vm.G, List.lookup, Nat.reduceAdd, Nat.reduceBEq, Int.reduceBNe, Int.reduceBEq, Nat.reduceLeDiff, q21]
      refine at_str Tryd.underlying9 (by omega) hgd ?_
      simp -dsimp only [Vm.G, List.lookup, Nat.reduceAdd, Nat.reduceBEq, Int.reduceBNe, Int.reduceBEq, Nat.reduceLeDiff, q21, h1, h2, hst]
      refine kept_intro ⟨K - (i + 1), by omega, _, le_mk [(3, .v (.string ⟨v.toArray⟩)), (4, .v (.bool (w.head? == some 45))), (5, .v (.int .i64 ((v.take (i + 1)).foldl stepP 0))), (14, .v (.int .i64 (K : Nat))), (15, .v (.int .i64 (i + 1 : Nat)))] ?_, i + 1, by omega, rfl, rfl⟩
      simp only [List.forall_mem_cons, List.not_mem_nil, false_imp_iff, implies_true, and_true, hw, hf]
      try simp -dsimp only [Vm.G, List.lookup, Nat.reduceAdd, Nat.reduceBEq, Int.reduceBNe, Int.reduceBEq, Nat.reduceLeDiff, q21, hw, hf]
      repeat' first | exact Fg.refl _ | exact Fg.nil _ _ _ (by decide) | refine And.intro ?_ ?_
    · have hge : ¬ i < K := by have := of_decide_eq_false hcc; omega
      have hiK : i = K := by omega
      rw [hiK, htk]
      by_cases hh : w.head? = some 45
      · have c1 : (w.head? == some 45) = true := by simpa using hh
        rw [if_pos hh] at hv
        rw [numP_yes hh, ← hv] at hq
        simp -dsimp only [Vm.G, List.lookup, Nat.reduceAdd, Nat.reduceBEq, Int.reduceBNe, Int.reduceBEq, Nat.reduceLeDiff, q21, c1]
        exact hq
      · have c1 : (w.head? == some 45) = false := by simpa using hh
        rw [if_neg hh] at hv
        rw [numP_no hh, ← hv] at hq
        generalize (v.take 19).foldl stepP 0 = n at hq ⊢
        have e1 : IntKind.i64.wrap (0 - n) = w64 (-n) := congrArg IntKind.i64.wrap (Int.zero_sub n)
        simp -dsimp only [Vm.G, List.lookup, Nat.reduceAdd, Nat.reduceBEq, Int.reduceBNe, Int.reduceBEq, Nat.reduceLeDiff, q21, c1, e1]
        exact hq
set_option maxHeartbeats 2000000 in
theorem does_numR : Does Tryd.prog 23 (numSpec numR) := by
  refine does_of_awp good_nil Tryd.func23 rfl (by decide +kernel) (by decide +kernel) ?_
  rintro args h Q ⟨w, hl, rfl, hq⟩
  refine ⟨by simp [Tryd.f23], ?_⟩
  rw [awpFunc_some (by rfl)]
  simp only [iv] at hq
  have hsz := sz_mk w
  simp only [strA]
  have hfrom : ∃ from_ : Nat, from_ = if w.head? = some 45 then 1 else 0 := ⟨_, rfl⟩
  rcases hfrom with ⟨fr, hfr⟩
  have hfl : fr ≤ w.length := by
    rw [hfr]; split
    · rename_i hh
      cases w with
      | nil => cases hh
      | cons a r => rw [List.length_cons]; omega
    · omega
  have hK : ∃ K : Nat, K = if w.length ≤ 20 then w.length else fr := ⟨_, rfl⟩
  rcases hK with ⟨K, hKe⟩
  have hKl : fr ≤ K ∧ K ≤ w.length := by rw [hKe]; split <;> omega
  have hfin : (if w.length ≤ 20 then (w.drop fr).foldl stepR 0 else 0) = ((w.drop fr).take (K - fr)).foldl stepR 0 := by
    by_cases h20 : w.length ≤ 20
    · rw [if_pos h20] at hKe ⊢
      rw [List.take_of_length_le (by rw [List.length_drop]; omega)]
    · rw [if_neg h20] at hKe ⊢
      rw [hKe, Nat.sub_self]; rfl
  have hval : (if fr = 0 then w64 (-(((w.drop fr).take (K - fr)).foldl stepR 0)) else ((w.drop fr).take (K - fr)).foldl stepR 0) = numR w := by
    rw [← hfin]
    by_cases hh : w.head? = some 45
    · rw [if_pos hh] at hfr
      rw [numR_yes hh, hfr, if_neg (by decide)]
    · rw [if_neg hh] at hfr
      rw [numR_no hh, hfr, if_pos rfl, List.drop_zero]
  simp -dsimp only [Vm.G, List.lookup, Nat.reduceAdd, Nat.reduceBEq, Int.reduceBNe, Int.reduceBEq, Nat.reduceLeDiff, q23, hsz]
  by_cases hh : w.head? = some 45
  · rw [if_pos hh] at hfr
    have hfi : ((fr : Nat) : Int) = 1 := by rw [hfr]; rfl
    have c0 : decide (((w.length : Nat) : Int) > 0) = true := decide_eq_true (by omega)
    simp -dsimp only [Vm.G, List.lookup, Nat.reduceAdd, Nat.reduceBEq, Int.reduceBNe, Int.reduceBEq, Nat.reduceLeDiff, q23, c0]
    refine at_str (c := 45) Tryd.underlying9 (by decide) (by rw [show (Int.toNat 0) = 0 from rfl, ← List.head?_eq_getElem?]; exact hh) ?_
    have c45 : ((((45 : UInt8).toNat : Nat) : Int) == 45) = true := rfl
    simp -dsimp only [Vm.G, List.lookup, Nat.reduceAdd, Nat.reduceBEq, Int.reduceBNe, Int.reduceBEq, Nat.reduceLeDiff, q23, c45]
    refine awp_loop (fun m s h' => ∃ i : Nat, fr + i + m = K ∧ h' = h ∧ s = mk [(0, .v (.string ⟨w.toArray⟩)), (3, .v (.int .i64 (((w.drop fr).take (i)).foldl stepR 0))), (4, .v (.int .i64 (fr : Nat))), (5, .v (.int .i64 (fr + (i) : Nat)))])
      (K - fr) _ (le_mk _ ?_) ⟨0, by omega, rfl, rfl⟩ ?_
    · simp only [List.forall_mem_cons, List.not_mem_nil, false_imp_iff, implies_true, and_true, hfi, Nat.add_zero]
      try simp -dsimp only [Vm.G, List.lookup, Nat.reduceAdd, Nat.reduceBEq, Int.reduceBNe, Int.reduceBEq, Nat.reduceLeDiff, q23, hfi, Nat.add_zero]
      repeat' first | exact Fg.refl _ | exact Fg.nil _ _ _ (by decide) | refine And.intro ?_ ?_
    · clear hfi
      rintro m s h' ⟨i, hi, rfl, rfl⟩
      simp -dsimp only [Vm.G, List.lookup, Nat.reduceAdd, Nat.reduceBEq, Int.reduceBNe, Int.reduceBEq, Nat.reduceLeDiff, q23, hsz]
      by_cases hlt : fr + i < K
      · have h20 : w.length ≤ 20 := Decidable.byContradiction fun h => by rw [if_neg h] at hKe; omega
        have c1 : decide (((fr + i : Nat) : Int) < ((w.length : Nat) : Int)) = true := decide_eq_true (by omega)
        have c2 : decide (((w.length : Nat) : Int) ≤ 20) = true := decide_eq_true (by omega)
        have hiv : i < (w.drop fr).length := by rw [List.length_drop]; omega
        have hf := fold_take (step := stepR) hiv
        have hgd : w[((fr + i : Nat) : Int).toNat]? = some (w.drop fr)[i] := by rw [Int.toNat_natCast, List.getElem_drop, List.getElem?_eq_getElem (by omega)]
        have hw : IntKind.i64.wrap (((fr + i : Nat) : Int) + 1) = ((fr + (i + 1) : Nat) : Int) := by rw [wrap_i64 (by omega) (by omega)]; omega
        generalize (w.drop fr)[i] = c at hf hgd
        generalize ((w.drop fr).take i).foldl stepR 0 = n at hf ⊢
        have hst : IntKind.i64.wrap (IntKind.i64.wrap (n * 10) - IntKind.i64.wrap ((c.toNat : Int) - 48)) = stepR n c := rfl
        have h2 := u8_in64 c
        simp -dsimp only [Vm.G, List.lookup, Nat.reduceAdd, Nat.reduceBEq, Int.reduceBNe, Int.reduceBEq, Nat.reduceLeDiff, q23, c1, hsz]
        simp -dsimp only [Vm.G, List.lookup, Nat.reduceAdd, Nat.reduceBEq, Int.reduceBNe, Int.reduceBEq, Nat.reduceLeDiff, q23, c2]
        refine at_str Tryd.underlying9 (by omega) hgd ?_
        simp -dsimp only [Vm.G, List.lookup, Nat.reduceAdd, Nat.reduceBEq, Int.reduceBNe, Int.reduceBEq, Nat.reduceLeDiff, q23, h2, hst]
        refine kept_intro ⟨K - fr - (i + 1), by omega, _, le_mk [(0, .v (.string ⟨w.toArray⟩)), (3, .v (.int .i64 (((w.drop fr).take (i + 1)).foldl stepR 0))), (4, .v (.int .i64 (fr : Nat))), (5, .v (.int .i64 (fr + (i + 1) : Nat)))] ?_, i + 1, by omega, rfl, rfl⟩
        simp only [List.forall_mem_cons, List.not_mem_nil, false_imp_iff, implies_true, and_true, hw, hf]
        try simp -dsimp only [Vm.G, List.lookup, Nat.reduceAdd, Nat.reduceBEq, Int.reduceBNe, Int.reduceBEq, Nat.reduceLeDiff, q23, hw, hf]
        repeat' first | exact Fg.refl _ | exact Fg.nil _ _ _ (by decide) | refine And.intro ?_ ?_
      · have hiK : i = K - fr := by omega
        have hout : ∀ (KK : Prop), True := fun _ => trivial
        rw [hiK] at *
        have hfK : fr + (K - fr) = K := by omega
        rw [hfK]
        generalize ((w.drop fr).take (K - fr)).foldl stepR 0 = n at hval ⊢
        by_cases h20 : w.length ≤ 20
        · rw [if_pos h20] at hKe
          have c1 : decide (((K : Nat) : Int) < ((w.length : Nat) : Int)) = false := decide_eq_false (by omega)
          simp -dsimp only [Vm.G, List.lookup, Nat.reduceAdd, Nat.reduceBEq, Int.reduceBNe, Int.reduceBEq, Nat.reduceLeDiff, q23, c1]
          by_cases f0 : fr = 0
          · have c3 : (((fr : Nat) : Int) == 0) = true := by rw [f0]; rfl
            rw [if_pos f0] at hval
            have e1 : IntKind.i64.wrap (0 - n) = numR w := by rw [Int.zero_sub]; exact hval
            simp -dsimp only [Vm.G, List.lookup, Nat.reduceAdd, Nat.reduceBEq, Int.reduceBNe, Int.reduceBEq, Nat.reduceLeDiff, q23, c3, e1]
            exact hq
          · have c3 : (((fr : Nat) : Int) == 0) = false := by simp only [beq_eq_false_iff_ne]; omega
            rw [if_neg f0] at hval
            simp -dsimp only [Vm.G, List.lookup, Nat.reduceAdd, Nat.reduceBEq, Int.reduceBNe, Int.reduceBEq, Nat.reduceLeDiff, q23, c3, hval]
            exact hq
        · rw [if_neg h20] at hKe
          have c1 : decide (((K : Nat) : Int) < ((w.length : Nat) : Int)) = true := decide_eq_true (by omega)
          have c2 : decide (((w.length : Nat) : Int) ≤ 20) = false := decide_eq_false (by omega)
          simp -dsimp only [Vm.G, List.lookup, Nat.reduceAdd, Nat.reduceBEq, Int.reduceBNe, Int.reduceBEq, Nat.reduceLeDiff, q23, c1, hsz]
          simp -dsimp only [Vm.G, List.lookup, Nat.reduceAdd, Nat.reduceBEq, Int.reduceBNe, Int.reduceBEq, Nat.reduceLeDiff, q23, c2]
          by_cases f0 : fr = 0
          · have c3 : (((fr : Nat) : Int) == 0) = true := by rw [f0]; rfl
            rw [if_pos f0] at hval
            have e1 : IntKind.i64.wrap (0 - n) = numR w := by rw [Int.zero_sub]; exact hval
            simp -dsimp only [Vm.G, List.lookup, Nat.reduceAdd, Nat.reduceBEq, Int.reduceBNe, Int.reduceBEq, Nat.reduceLeDiff, q23, c3, e1]
            exact hq
          · have c3 : (((fr : Nat) : Int) == 0) = false := by simp only [beq_eq_false_iff_ne]; omega
            rw [if_neg f0] at hval
            simp -dsimp only [Vm.G, List.lookup, Nat.reduceAdd, Nat.reduceBEq, Int.reduceBNe, Int.reduceBEq, Nat.reduceLeDiff, q23, c3, hval]
            exact hq
  · rw [if_neg hh] at hfr
    have hfi : ((fr : Nat) : Int) = 0 := by rw [hfr]; rfl
    by_cases hw0 : 0 < w.length
    · have c0 : decide (((w.length : Nat) : Int) > 0) = true := decide_eq_true (by omega)
      have hae : ∃ a, w.head? = some a := by
        cases w with
        | nil => simp at hw0
        | cons a r => exact ⟨a, rfl⟩
      rcases hae with ⟨a, hae⟩
      have ha : a ≠ 45 := fun e => hh (by rw [hae, e])
      have c45 : ((a.toNat : Int) == 45) = false := by
        simp only [beq_eq_false_iff_ne]
        intro e
        exact ha (UInt8.toNat_inj.1 (by have : a.toNat = 45 := by omega
                                        rw [this]; rfl))
      simp -dsimp only [Vm.G, List.lookup, Nat.reduceAdd, Nat.reduceBEq, Int.reduceBNe, Int.reduceBEq, Nat.reduceLeDiff, q23, c0]
      refine at_str (c := a) Tryd.underlying9 (by decide) (by rw [show (Int.toNat 0) = 0 from rfl, ← List.head?_eq_getElem?]; exact hae) ?_
      simp -dsimp only [Vm.G, List.lookup, Nat.reduceAdd, Nat.reduceBEq, Int.reduceBNe, Int.reduceBEq, Nat.reduceLeDiff, q23, c45]
      clear ha hae c45 c0
      refine awp_loop (fun m s h' => ∃ i : Nat, fr + i + m = K ∧ h' = h ∧ s = mk [(0, .v (.string ⟨w.toArray⟩)), (3, .v (.int .i64 (((w.drop fr).take (i)).foldl stepR 0))), (4, .v (.int .i64 (fr : Nat))), (5, .v (.int .i64 (fr + (i) : Nat)))])
        (K - fr) _ (le_mk _ ?_) ⟨0, by omega, rfl, rfl⟩ ?_
      · simp only [List.forall_mem_cons, List.not_mem_nil, false_imp_iff, implies_true, and_true, hfi, Nat.add_zero]
        try simp -dsimp only [Vm.G, List.lookup, Nat.reduceAdd, Nat.reduceBEq, Int.reduceBNe, Int.reduceBEq, Nat.reduceLeDiff, q23, hfi, Nat.add_zero]
        repeat' first | exact Fg.refl _ | exact Fg.nil _ _ _ (by decide) | refine And.intro ?_ ?_
      · clear hfi
        rintro m s h' ⟨i, hi, rfl, rfl⟩
        simp -dsimp only [Vm.G, List.lookup, Nat.reduceAdd, Nat.reduceBEq, Int.reduceBNe, Int.reduceBEq, Nat.reduceLeDiff, q23, hsz]
        by_cases hlt : fr + i < K
        · have h20 : w.length ≤ 20 := Decidable.byContradiction fun h => by rw [if_neg h] at hKe; omega
          have c1 : decide (((fr + i : Nat) : Int) < ((w.length : Nat) : Int)) = true := decide_eq_true (by omega)
          have c2 : decide (((w.length : Nat) : Int) ≤ 20) = true := decide_eq_true (by omega)
          have hiv : i < (w.drop fr).length := by rw [List.length_drop]; omega
          have hf := fold_take (step := stepR) hiv
          have hgd : w[((fr + i : Nat) : Int).toNat]? = some (w.drop fr)[i] := by rw [Int.toNat_natCast, List.getElem_drop, List.getElem?_eq_getElem (by omega)]
          have hw : IntKind.i64.wrap (((fr + i : Nat) : Int) + 1) = ((fr + (i + 1) : Nat) : Int) := by rw [wrap_i64 (by omega) (by omega)]; omega
          generalize (w.drop fr)[i] = c at hf hgd
          generalize ((w.drop fr).take i).foldl stepR 0 = n at hf ⊢
          have hst : IntKind.i64.wrap (IntKind.i64.wrap (n * 10) - IntKind.i64.wrap ((c.toNat : Int) - 48)) = stepR n c := rfl
          have h2 := u8_in64 c
          simp -dsimp only [Vm.G, List.lookup, Nat.reduceAdd, Nat.reduceBEq, Int.reduceBNe, Int.reduceBEq, Nat.reduceLeDiff, q23, c1, hsz]
          simp -dsimp only [Vm.G, List.lookup, Nat.reduceAdd, Nat.reduceBEq, Int.reduceBNe, Int.reduceBEq, Nat.reduceLeDiff, q23, c2]
          refine at_str Tryd.underlying9 (by omega) hgd ?_
          simp -dsimp only [Vm.G, List.lookup, Nat.reduceAdd, Nat.reduceBEq, Int.reduceBNe, Int.reduceBEq, Nat.reduceLeDiff, q23, h2, hst]
          refine kept_intro ⟨K - fr - (i + 1), by omega, _, le_mk [(0, .v (.string ⟨w.toArray⟩)), (3, .v (.int .i64 (((w.drop fr).take (i + 1)).foldl stepR 0))), (4, .v (.int .i64 (fr : Nat))), (5, .v (.int .i64 (fr + (i + 1) : Nat)))] ?_, i + 1, by omega, rfl, rfl⟩
          simp only [List.forall_mem_cons, List.not_mem_nil, false_imp_iff, implies_true, and_true, hw, hf]
          try simp -dsimp only [Vm.G, List.lookup, Nat.reduceAdd, Nat.reduceBEq, Int.reduceBNe, Int.reduceBEq, Nat.reduceLeDiff, q23, hw, hf]
          repeat' first | exact Fg.refl _ | exact Fg.nil _ _ _ (by decide) | refine And.intro ?_ ?_
        · have hiK : i = K - fr := by omega
          have hout : ∀ (KK : Prop), True := fun _ => trivial
          rw [hiK] at *
          have hfK : fr + (K - fr) = K := by omega
          rw [hfK]
          generalize ((w.drop fr).take (K - fr)).foldl stepR 0 = n at hval ⊢
          by_cases h20 : w.length ≤ 20
          · rw [if_pos h20] at hKe
            have c1 : decide (((K : Nat) : Int) < ((w.length : Nat) : Int)) = false := decide_eq_false (by omega)
            simp -dsimp only [Vm.G, List.lookup, Nat.reduceAdd, Nat.reduceBEq, Int.reduceBNe, Int.reduceBEq, Nat.reduceLeDiff, q23, c1]
            by_cases f0 : fr = 0
            · have c3 : (((fr : Nat) : Int) == 0) = true := by rw [f0]; rfl
              rw [if_pos f0] at hval
              have e1 : IntKind.i64.wrap (0 - n) = numR w := by rw [Int.zero_sub]; exact hval
              simp -dsimp only [Vm.G, List.lookup, Nat.reduceAdd, Nat.reduceBEq, Int.reduceBNe, Int.reduceBEq, Nat.reduceLeDiff, q23, c3, e1]
              exact hq
            · have c3 : (((fr : Nat) : Int) == 0) = false := by simp only [beq_eq_false_iff_ne]; omega
              rw [if_neg f0] at hval
              simp -dsimp only [Vm.G, List.lookup, Nat.reduceAdd, Nat.reduceBEq, Int.reduceBNe, Int.reduceBEq, Nat.reduceLeDiff, q23, c3, hval]
              exact hq
          · rw [if_neg h20] at hKe
            have c1 : decide (((K : Nat) : Int) < ((w.length : Nat) : Int)) = true := decide_eq_true (by omega)
            have c2 : decide (((w.length : Nat) : Int) ≤ 20) = false := decide_eq_false (by omega)
            simp -dsimp only [Vm.G, List.lookup, Nat.reduceAdd, Nat.reduceBEq, Int.reduceBNe, Int.reduceBEq, Nat.reduceLeDiff, q23, c1, hsz]
            simp -dsimp only [Vm.G, List.lookup, Nat.reduceAdd, Nat.reduceBEq, Int.reduceBNe, Int.reduceBEq, Nat.reduceLeDiff, q23, c2]
            by_cases f0 : fr = 0
            · have c3 : (((fr : Nat) : Int) == 0) = true := by rw [f0]; rfl
              rw [if_pos f0] at hval
              have e1 : IntKind.i64.wrap (0 - n) = numR w := by rw [Int.zero_sub]; exact hval
              simp -dsimp only [Vm.G, List.lookup, Nat.reduceAdd, Nat.reduceBEq, Int.reduceBNe, Int.reduceBEq, Nat.reduceLeDiff, q23, c3, e1]
              exact hq
            · have c3 : (((fr : Nat) : Int) == 0) = false := by simp only [beq_eq_false_iff_ne]; omega
              rw [if_neg f0] at hval
              simp -dsimp only [Vm.G, List.lookup, Nat.reduceAdd, Nat.reduceBEq, Int.reduceBNe, Int.reduceBEq, Nat.reduceLeDiff, q23, c3, hval]
              exact hq
    · have c0 : decide (((w.length : Nat) : Int) > 0) = false := decide_eq_false (by omega)
      simp -dsimp only [Vm.G, List.lookup, Nat.reduceAdd, Nat.reduceBEq, Int.reduceBNe, Int.reduceBEq, Nat.reduceLeDiff, q23, c0]
      refine awp_loop (fun m s h' => ∃ i : Nat, fr + i + m = K ∧ h' = h ∧ s = mk [(0, .v (.string ⟨w.toArray⟩)), (3, .v (.int .i64 (((w.drop fr).take (i)).foldl stepR 0))), (4, .v (.int .i64 (fr : Nat))), (5, .v (.int .i64 (fr + (i) : Nat)))])
        (K - fr) _ (le_mk _ ?_) ⟨0, by omega, rfl, rfl⟩ ?_
      · simp only [List.forall_mem_cons, List.not_mem_nil, false_imp_iff, implies_true, and_true, hfi, Nat.add_zero]
        try simp -dsimp only [Vm.G, List.lookup, Nat.reduceAdd, Nat.reduceBEq, Int.reduceBNe, Int.reduceBEq, Nat.reduceLeDiff, q23, hfi, Nat.add_zero]
        repeat' first | exact Fg.refl _ | exact Fg.nil _ _ _ (by decide) | refine And.intro ?_ ?_
      · clear hfi
        rintro m s h' ⟨i, hi, rfl, rfl⟩
        simp -dsimp only [Vm.G, List.lookup, Nat.reduceAdd, Nat.reduceBEq, Int.reduceBNe, Int.reduceBEq, Nat.reduceLeDiff, q23, hsz]
        by_cases hlt : fr + i < K
        · have h20 : w.length ≤ 20 := Decidable.byContradiction fun h => by rw [if_neg h] at hKe; omega
          have c1 : decide (((fr + i : Nat) : Int) < ((w.length : Nat) : Int)) = true := decide_eq_true (by omega)
          have c2 : decide (((w.length : Nat) : Int) ≤ 20) = true := decide_eq_true (by omega)
          have hiv : i < (w.drop fr).length := by rw [List.length_drop]; omega
          have hf := fold_take (step := stepR) hiv
          have hgd : w[((fr + i : Nat) : Int).toNat]? = some (w.drop fr)[i] := by rw [Int.toNat_natCast, List.getElem_drop, List.getElem?_eq_getElem (by omega)]
          have hw : IntKind.i64.wrap (((fr + i : Nat) : Int) + 1) = ((fr + (i + 1) : Nat) : Int) := by rw [wrap_i64 (by omega) (by omega)]; omega
          generalize (w.drop fr)[i] = c at hf hgd
          generalize ((w.drop fr).take i).foldl stepR 0 = n at hf ⊢
          have hst : IntKind.i64.wrap (IntKind.i64.wrap (n * 10) - IntKind.i64.wrap ((c.toNat : Int) - 48)) = stepR n c := rfl
          have h2 := u8_in64 c
          simp -dsimp only [Vm.G, List.lookup, Nat.reduceAdd, Nat.reduceBEq, Int.reduceBNe, Int.reduceBEq, Nat.reduceLeDiff, q23, c1, hsz]
          simp -dsimp only [Vm.G, List.lookup, Nat.reduceAdd, Nat.reduceBEq, Int.reduceBNe, Int.reduceBEq, Nat.reduceLeDiff, q23, c2]
          refine at_str Tryd.underlying9 (by omega) hgd ?_
          simp -dsimp only [Vm.G, List.lookup, Nat.reduceAdd, Nat.reduceBEq, Int.reduceBNe, Int.reduceBEq, Nat.reduceLeDiff, q23, h2, hst]
          refine kept_intro ⟨K - fr - (i + 1), by omega, _, le_mk [(0, .v (.string ⟨w.toArray⟩)), (3, .v (.int .i64 (((w.drop fr).take (i + 1)).foldl stepR 0))), (4, .v (.int .i64 (fr : Nat))), (5, .v (.int .i64 (fr + (i + 1) : Nat)))] ?_, i + 1, by omega, rfl, rfl⟩
          simp only [List.forall_mem_cons, List.not_mem_nil, false_imp_iff, implies_true, and_true, hw, hf]
          try simp -dsimp only [Vm.G, List.lookup, Nat.reduceAdd, Nat.reduceBEq, Int.reduceBNe, Int.reduceBEq, Nat.reduceLeDiff, q23, hw, hf]
          repeat' first | exact Fg.refl _ | exact Fg.nil _ _ _ (by decide) | refine And.intro ?_ ?_
        · have hiK : i = K - fr := by omega
          have hout : ∀ (KK : Prop), True := fun _ => trivial
          rw [hiK] at *
          have hfK : fr + (K - fr) = K := by omega
          rw [hfK]
          generalize ((w.drop fr).take (K - fr)).foldl stepR 0 = n at hval ⊢
          by_cases h20 : w.length ≤ 20
          · rw [if_pos h20] at hKe
            have c1 : decide (((K : Nat) : Int) < ((w.length : Nat) : Int)) = false := decide_eq_false (by omega)
            simp -dsimp only [Vm.G, List.lookup, Nat.reduceAdd, Nat.reduceBEq, Int.reduceBNe, Int.reduceBEq, Nat.reduceLeDiff, q23, c1]
            by_cases f0 : fr = 0
            · have c3 : (((fr : Nat) : Int) == 0) = true := by rw [f0]; rfl
              rw [if_pos f0] at hval
              have e1 : IntKind.i64.wrap (0 - n) = numR w := by rw [Int.zero_sub]; exact hval
              simp -dsimp only [Vm.G, List.lookup, Nat.reduceAdd, Nat.reduceBEq, Int.reduceBNe, Int.reduceBEq, Nat.reduceLeDiff, q23, c3, e1]
              exact hq
            · have c3 : (((fr : Nat) : Int) == 0) = false := by simp only [beq_eq_false_iff_ne]; omega
              rw [if_neg f0] at hval
              simp -dsimp only [Vm.G, List.lookup, Nat.reduceAdd, Nat.reduceBEq, Int.reduceBNe, Int.reduceBEq, Nat.reduceLeDiff, q23, c3, hval]
              exact hq
          · rw [if_neg h20] at hKe
            have c1 : decide (((K : Nat) : Int) < ((w.length : Nat) : Int)) = true := decide_eq_true (by omega)
            have c2 : decide (((w.length : Nat) : Int) ≤ 20) = false := decide_eq_false (by omega)
            simp -dsimp only [Vm.G, List.lookup, Nat.reduceAdd, Nat.reduceBEq, Int.reduceBNe, Int.reduceBEq, Nat.reduceLeDiff, q23, c1, hsz]
            simp -dsimp only [Vm.G, List.lookup, Nat.reduceAdd, Nat.reduceBEq, Int.reduceBNe, Int.reduceBEq, Nat.reduceLeDiff, q23, c2]
            by_cases f0 : fr = 0
            · have c3 : (((fr : Nat) : Int) == 0) = true := by rw [f0]; rfl
              rw [if_pos f0] at hval
              have e1 : IntKind.i64.wrap (0 - n) = numR w := by rw [Int.zero_sub]; exact hval
              simp -dsimp only [Vm.G, List.lookup, Nat.reduceAdd, Nat.reduceBEq, Int.reduceBNe, Int.reduceBEq, Nat.reduceLeDiff, q23, c3, e1]
              exact hq
            · have c3 : (((fr : Nat) : Int) == 0) = false := by simp only [beq_eq_false_iff_ne]; omega
              rw [if_neg f0] at hval
              simp -dsimp only [Vm.G, List.lookup, Nat.reduceAdd, Nat.reduceBEq, Int.reduceBNe, Int.reduceBEq, Nat.reduceLeDiff, q23, c3, hval]
              exact hq
def nums6 (a b c d e f : Int) : List AV := [.v (.int .i64 a), .v (.int .i64 b), .v (.int .i64 c), .v (.int .i64 d), .v (.int .i64 e), .v (.int .i64 f)]
def rowSpec : Vm.Spec := fun args h Q => ∃ a b c d e f : Int, args = [.agg (nums6 a b c d e f)] ∧ Q (rwAv ⟨a, b, c, d, e, f⟩) h
theorem does_row : Does Tryd.prog 22 rowSpec := by
  refine does_of_awp good_nil Tryd.func22 rfl (by decide +kernel) (by decide +kernel) ?_
  rintro args h Q ⟨a, b, c, d, e, f, rfl, hq⟩
  refine ⟨by simp [Tryd.f22], ?_⟩
  rw [awpFunc_some (by rfl)]
  simp only [rwAv, rwCells] at hq
  simp only [nums6]
  simp -dsimp only [Vm.G, List.lookup, Nat.reduceAdd, Nat.reduceBEq, Int.reduceBNe, Int.reduceBEq, Nat.reduceLeDiff, q22]
  refine arr_place ?_ ?_ ?_
  · decide
  · decide
  simp -dsimp only [Vm.G, List.lookup, Nat.reduceAdd, Nat.reduceBEq, Int.reduceBNe, Int.reduceBEq, Nat.reduceLeDiff, q22, Int.reduceToNat, Nat.reduceMul, Nat.mul_one, Nat.zero_add, List.drop_zero, List.drop_succ_cons]
  refine arr_place ?_ ?_ ?_
  · decide
  · decide
  simp -dsimp only [Vm.G, List.lookup, Nat.reduceAdd, Nat.reduceBEq, Int.reduceBNe, Int.reduceBEq, Nat.reduceLeDiff, q22, Int.reduceToNat, Nat.reduceMul, Nat.mul_one, Nat.zero_add, List.drop_zero, List.drop_succ_cons]
  refine arr_place ?_ ?_ ?_
  · decide
  · decide
  simp -dsimp only [Vm.G, List.lookup, Nat.reduceAdd, Nat.reduceBEq, Int.reduceBNe, Int.reduceBEq, Nat.reduceLeDiff, q22, Int.reduceToNat, Nat.reduceMul, Nat.mul_one, Nat.zero_add, List.drop_zero, List.drop_succ_cons]
  refine arr_place ?_ ?_ ?_
  · decide
  · decide
  simp -dsimp only [Vm.G, List.lookup, Nat.reduceAdd, Nat.reduceBEq, Int.reduceBNe, Int.reduceBEq, Nat.reduceLeDiff, q22, Int.reduceToNat, Nat.reduceMul, Nat.mul_one, Nat.zero_add, List.drop_zero, List.drop_succ_cons]
  refine arr_place ?_ ?_ ?_
  · decide
  · decide
  simp -dsimp only [Vm.G, List.lookup, Nat.reduceAdd, Nat.reduceBEq, Int.reduceBNe, Int.reduceBEq, Nat.reduceLeDiff, q22, Int.reduceToNat, Nat.reduceMul, Nat.mul_one, Nat.zero_add, List.drop_zero, List.drop_succ_cons]
  refine arr_place ?_ ?_ ?_
  · decide
  · decide
  simp -dsimp only [Vm.G, List.lookup, Nat.reduceAdd, Nat.reduceBEq, Int.reduceBNe, Int.reduceBEq, Nat.reduceLeDiff, q22, Int.reduceToNat, Nat.reduceMul, Nat.mul_one, Nat.zero_add, List.drop_zero, List.drop_succ_cons]
  exact hq
def rnumsSpec : Vm.Spec := fun args h Q => ∃ r : Rw, args = [rwAv r] ∧ Q (.agg (r.nums.map iv)) h
theorem does_rnums : Does Tryd.prog 26 rnumsSpec := by
  refine does_of_awp good_nil Tryd.func26 rfl (by decide +kernel) (by decide +kernel) ?_
  rintro args h Q ⟨r, rfl, hq⟩
  refine ⟨by simp [Tryd.f26], ?_⟩
  rw [awpFunc_some (by rfl)]
  simp only [Rw.nums, iv, List.map_cons, List.map_nil] at hq
  simp only [rwAv, rwCells]
  simp -dsimp only [Vm.G, List.lookup, Nat.reduceAdd, Nat.reduceBEq, Int.reduceBNe, Int.reduceBEq, Nat.reduceLeDiff, q26]
  exact hq
end Go.Proofs.Lx
/- A number's text, by the library's builder; pieces joined: by the kit's own walk. -/
set_option linter.unusedSimpArgs false
set_option linter.unusedVariables false
namespace Go.Proofs.Lx
open Go.Vm Go.RowKit
theorem bxJoin : Builder.Extra Tryd.prog Tryd.joinB_ren where
  sizeBuilder := by kernel_rfl
  liesBuilder := by kernel_rfl
  t5 := Tryd.underlying5
  a5 := Tryd.isAgg5
  z5 := Tryd.sizeOf5
  v5 := Tryd.zeroValue5
  infoByte := by kernel_rfl
  cellsByte := by kernel_rfl
  sizeByte := by kernel_rfl
  neB5 := by decide
theorem bCopyL : Lays.n240 Tryd.prog Tryd.joinB_ren := { Tryd.joinB with }
theorem bStrL : Lays.n166 Tryd.prog Tryd.joinB_ren := { Tryd.joinB with }
theorem bxString : Builder.Extra Tryd.prog Tryd.bString_ren where
  sizeBuilder := by kernel_rfl
  liesBuilder := by kernel_rfl
  t5 := Tryd.underlying5
  a5 := Tryd.isAgg5
  z5 := Tryd.sizeOf5
  v5 := Tryd.zeroValue5
  infoByte := by kernel_rfl
  cellsByte := by kernel_rfl
  sizeByte := by kernel_rfl
  neB5 := by decide
theorem join_inter : ∀ ws : List (List UInt8), Lib.join ws [44] = joinC ws
  | [] => rfl
  | [w] => by simp [Lib.join, joinC, List.intercalate]
  | w :: v :: r => by
    have ih := join_inter (v :: r)
    show _ = w ++ 44 :: joinC (v :: r)
    rw [← ih]
    simp [Lib.join, List.intercalate]
theorem flat_strA (l : List (List UInt8)) : flat (l.map strA) = l.map strA := by
  induction l with
  | nil => rfl
  | cons y ys ih => simp only [flat, List.map_cons, List.flatMap_cons] at ih ⊢; rw [ih]; rfl
def joinSpec : Vm.Spec := fun args h Q => ∃ ws : List (List UInt8), ws ≠ [] ∧ ws.length ≤ 140737488355328 ∧ (joinC ws).length ≤ 140737488355328 ∧ args = [.sl 1 (ws.map strA), strA [44]] ∧ Q (strA (joinC ws)) h
theorem does_join : Does Tryd.prog 28 joinSpec := by
  refine ⟨⟨Tryd.f28, Tryd.func28, by kernel_rfl, by decide +kernel⟩, ?_⟩
  rintro args h Q ⟨ws, hne, hln, hjl, rfl, hq⟩ w g vs hvs hrep hh hfr hlaid
  have h0 := hrep 0 _ rfl
  have h1 : vs.getD 1 undef = .string ⟨[44].toArray⟩ := (rep_v (x := .string ⟨[44].toArray⟩) (hrep 1 (strA [44]) rfl)).1
  have hsl : ∃ b o c, vs.getD 0 undef = .slice (some ⟨b, o, none⟩) ws.length c ∧ (∀ (j : Nat) x, (ws.map fun l => (⟨l.toArray⟩ : ByteArray))[j]? = some x → w.cell? ⟨b, o + j, none⟩ = some (.string x)) ∧ b < w.heap.size ∧ ws.length ≤ c := by
    generalize vs.getD 0 undef = v at h0
    generalize hx : ws.map strA = xs at h0
    cases h0 with
    | nil => exact absurd (List.map_eq_nil_iff.1 hx) hne
    | empty => exact absurd (List.map_eq_nil_iff.1 hx) hne
    | @sl _ _ b o c vs' hc hm hsz hu hr hs =>
      subst hx
      have hcell : ∀ (j : Nat) x, (ws.map fun l => (⟨l.toArray⟩ : ByteArray))[j]? = some x → w.cell? ⟨b, o + j, none⟩ = some (.string x) := fun j x hj => by
        rw [List.getElem?_map] at hj
        cases hw : ws[j]? with
        | none => rw [hw] at hj; cases hj
        | some l =>
          rw [hw] at hj
          cases hj
          have hget : (flat (ws.map strA))[j]? = some (strA l) := by rw [flat_strA, List.getElem?_map, hw]; rfl
          have h1 := (hr j _ hget).1
          have h2 := (rep_v (hs j _ hget)).1
          rw [h1, h2]
      refine ⟨b, o, c, by rw [List.length_map], hcell, ?_, by rw [List.length_map] at hc; exact hc⟩
      obtain ⟨l, r, rfl⟩ : ∃ l r, ws = l :: r := by
        cases ws with
        | nil => exact absurd rfl hne
        | cons l r => exact ⟨l, r, rfl⟩
      exact World.block_lt_of_cell? w _ (hcell 0 _ rfl)
  obtain ⟨b, o, c, hv0, hcells, hb, hcap⟩ := hsl
  have hvs2 : vs = #[.slice (some ⟨b, o, none⟩) (ws.map fun l => (⟨l.toArray⟩ : ByteArray)).length c, .string ⟨[44].toArray⟩] := by
    rw [List.length_map]
    have h2 : vs.size = 2 := hvs
    apply Array.ext
    · simpa using h2
    · intro i hi1 hi2
      rcases i with _ | _ | i
      · simpa [Array.getD, h2] using hv0
      · simpa [Array.getD, h2] using h1
      · simp at hi2; omega
  have hmm : (ws.map fun l => (⟨l.toArray⟩ : ByteArray)).map (·.data.toList) = ws := by simp [List.map_map, Function.comp_def]
  have hl1 : (ws.map fun l => (⟨l.toArray⟩ : ByteArray)).length ≤ 140737488355328 := by rw [List.length_map]; exact hln
  have hl2 : (ws.map fun l => (⟨l.toArray⟩ : ByteArray)).length ≤ c := by rw [List.length_map]; exact hcap
  have hl3 : (Lib.join ((ws.map fun l => (⟨l.toArray⟩ : ByteArray)).map (·.data.toList)) (⟨[44].toArray⟩ : ByteArray).data.toList).length ≤ 140737488355328 := by rw [hmm, data_mk, join_inter]; exact hjl
  have key := Any.strings_Join Tryd.joinB bxJoin b o c (ws.map fun l => (⟨l.toArray⟩ : ByteArray)) ⟨[44].toArray⟩ w hcells hb hl1 hl2 hl3
  rw [hmm, data_mk, join_inter] at key
  have hf : Tryd.joinB_ren.f 156 = 28 := by kernel_rfl
  rw [hf] at key
  rw [hvs2]
  refine key.mono ?_
  rintro e w' ⟨rfl, hb⟩
  exact plain_end hh hfr hb hq fun w g B => Rep.v rfl
theorem cc_calls (b : Nat) (p v : Value) (hp : p = .pointer none ∨ p = .pointer (some ⟨b, 0, none⟩)) (w : World) (hb : w.heap[b]? = some (.cells #[p, v] 48 (0, 0))) :
    Calls Tryd.prog 25 #[.pointer (some ⟨b, 0, none⟩)] w fun e w' => e = .returned (.tuple #[]) ∧ w'.heap[b]? = some (.cells #[.pointer (some ⟨b, 0, none⟩), v] 48 (0, 0)) ∧ w.grownBy w' (some b) := by
  have h0 : w.cell? ⟨b, 0, none⟩ = some p := by rw [Lib.cell_of_heap hb]; rfl
  rcases hp with rfl | rfl
  · refine (Any.Builder_copyCheck_fresh bCopyL bxJoin.toX72 b w h0 (by simp [World.shape?, hb]; rfl) (Lib.frozen_of_heap hb 0)).mono ?_
    rintro e w' ⟨rfl, rfl⟩
    exact ⟨rfl, by simp [World.setCell, Array.getElem?_modify, hb], ⟨rfl, rfl, rfl, by simp [World.setCell], fun k hk hne => Below.heap_setCell _ _ _ _ (fun e => hne (by rw [e]))⟩⟩
  · refine (Any.Builder_copyCheck_used bCopyL bxJoin.toX72 b w h0).mono ?_
    rintro e w' ⟨rfl, rfl⟩
    exact ⟨rfl, hb, ⟨rfl, rfl, rfl, Nat.le_refl _, fun _ _ _ => rfl⟩⟩
set_option maxHeartbeats 2000000 in
set_option maxRecDepth 100000 in
theorem wb_calls (base b : Nat) (p v : Value) (hp : p = .pointer none ∨ p = .pointer (some ⟨b, 0, none⟩)) (bs : List Value) (c : Int) (w : World) (hb : w.heap[b]? = some (.cells #[p, v] 48 (0, 0))) (hown : w.ownsRowF base 5 1 v bs.length bs) (hlen : bs.length + 1 ≤ 140737488355328) (hbw : base ≤ w.heap.size) :
    Calls Tryd.prog 34 #[.pointer (some ⟨b, 0, none⟩), .int .u8 c] w fun e w' => e = .returned .nilIface ∧ ∃ v', w'.heap[b]? = some (.cells #[.pointer (some ⟨b, 0, none⟩), v'] 48 (0, 0)) ∧ w'.ownsRowF base 5 1 v' (bs.length + 1) (bs ++ [.int .u8 c]) ∧
      w'.os = w.os ∧ w'.tape = w.tape ∧ w'.output = w.output ∧ w.heap.size ≤ w'.heap.size ∧ ∀ k, k < w.heap.size → k ≠ b → some k ≠ v.ownBlock → w'.heap[k]? = w.heap[k]? := by
  obtain ⟨i0, hi, hz0, hz1, hz2⟩ := info_parts bxJoin.infoByte
  have hne : v.ownBlock ≠ some b := Lib.ownBlock_neF hown hb (by decide)
  go_enter Tryd.func34, Tryd.ntmps34
  go_wp2_with (go_at_call 25; refine (cc_calls b p v hp _ hb).mono ?_)
  rintro e w1 ⟨rfl, hbk, hg1⟩
  have hown1 : w1.ownsRowF base 5 1 v bs.length bs := hown.kept hg1 (.inr hne)
  have c0 : w1.cell? ⟨b, 0, none⟩ = some (.pointer (some ⟨b, 0, none⟩)) := by rw [Lib.cell_of_heap hbk]; rfl
  have c1 : w1.cell? ⟨b, 1, none⟩ = some v := by rw [Lib.cell_of_heap hbk]; rfl
  go_wp2_with (at_builtin; refine wpList_append_ownF _ rfl _ _ 46 rfl base 5 i0 (.int .u8 0) 1 1 Tryd.underlying46 hi hz0 hz1 hz2 rfl (by decide) _ _ _ rfl (hown1.alloc _) ⟨w1.heap.size, 0, none⟩ 1 1 [.int .u8 c] rfl rfl ?c1 ?c2 ?c3 ?c4 ?c5 ?_)
  case c1 =>
    intro j u hj
    match j, hj with
    | 0, hj => simp at hj; subst hj; simp [Addr.add]
  case c2 => intro u hu; simp at hu; subst hu; rfl
  case c3 => unfold maxLen; omega
  case c4 => omega
  case c5 => have := hg1.size; simp; omega
  intro v' w2 hown' hgrow _
  have hlt : b < w1.heap.size := by
    rcases Nat.lt_or_ge b w1.heap.size with h' | h'
    · exact h'
    · simp [Array.getElem?_eq_none h'] at hbk
  have hb2 : w2.heap[b]? = some (.cells #[.pointer (some ⟨b, 0, none⟩), v] 48 (0, 0)) := by
    rw [hgrow.block b (by simp; omega) (fun e => hne e.symm), Lib.alloc_old w1 _ b hlt]
    exact hbk
  have d0 : w2.cell? ⟨b, 0, none⟩ = some (.pointer (some ⟨b, 0, none⟩)) := by rw [Lib.cell_of_heap hb2]; rfl
  have d1 : w2.cell? ⟨b, 1, none⟩ = some v := by rw [Lib.cell_of_heap hb2]; rfl
  have f1 : w2.frozen? ⟨b, 1, none⟩ = false := Lib.frozen_of_heap hb2 1
  have hsz := hgrow.size
  obtain ⟨gb, cap, rfl⟩ : ∃ g cap, v' = .slice (some ⟨g, 0, none⟩) (bs.length + 1) cap := by
    rcases hown'.2 with ⟨_, h0⟩ | ⟨g, cap, cur, fz, hv, _⟩
    · omega
    · exact ⟨g, cap, hv⟩
  go_wp2
  go_ret
  refine ⟨rfl, .slice (some ⟨gb, 0, none⟩) (bs.length + 1) cap, ?_, ?_, ?_⟩
  · simp [World.setCell, Array.getElem?_modify, hb2]
  · have hne2 : (Value.slice (some ⟨gb, 0, none⟩) (bs.length + 1) cap).ownBlock ≠ some b := Lib.ownBlock_neF hown' hb2 (by decide)
    exact hown'.kept (row := some b) ⟨rfl, rfl, rfl, by simp [World.setCell], fun k hk hne => Below.heap_setCell _ _ _ _ (fun e => hne (by rw [e]))⟩ (.inr hne2)
  · refine ⟨hgrow.os.trans hg1.os, hgrow.tape.trans hg1.tape, hgrow.output.trans hg1.output, ?_, fun k hk hkb hkv => ?_⟩
    · have := hg1.size
      simp [World.setCell] at hsz ⊢
      omega
    · have h1 := hg1.size
      rw [Below.heap_setCell _ _ _ _ hkb, hgrow.block k (by simp; omega) hkv, Lib.alloc_old w1 _ k (by omega), hg1.block k hk (fun e => hkb (Option.some.inj e))]
end Go.Proofs.Lx
/- A number's text: the walk. -/
set_option linter.unusedSimpArgs false
set_option linter.unusedVariables false
namespace Go.Proofs.Lx
open Go.Vm Go.RowKit
/-- A contract at a call without objects. -/
def noG : Gh := ⟨fun _ => 0, 0, fun _ => 0⟩
theorem does_calm {f : FuncId} {S : Vm.Spec} (hd : Does Tryd.prog f S) {args : List AV} {vs : Array Value} {Q : AV → Prop} {w : World} (hS : S args [] fun r h => Q r ∧ h = []) (hl : vs.size = args.length) (hr : ∀ j u, args[j]? = some u → Rep w noG u (vs.getD j undef)) :
    Calls Tryd.prog f vs w fun e w' => ∃ r g' v, Q r ∧ e = .returned v ∧ ResRep w' g' w.heap.size r v ∧ Below w.heap.size w w' := by
  refine (hd.2 args [] _ hS w noG vs hl hr ⟨rfl, fun i hi => absurd hi (Nat.not_lt_zero _), fun i j hi => absurd hi (Nat.not_lt_zero _), fun i o ho => by simp at ho⟩ (fun _ _ => rfl) (fun i cs hi => by simp [globTab] at hi)).mono ?_
  rintro e w' ⟨r, h', g', v', ⟨hq, rfl⟩, rfl, hres, hh, hfr, -⟩
  exact ⟨r, g', v', hq, rfl, hres, ⟨hfr.os, hfr.tape, hfr.output, hfr.size, fun k hk => hfr.block k hk fun i hi => absurd hi (Nat.not_lt_zero _)⟩⟩
theorem flat_enc8 : ∀ l : List UInt8, flat (l.map encB) = l.map encB := fun l => by
  induction l with
  | nil => rfl
  | cons y ys ih => simp only [flat, List.map_cons, List.flatMap_cons] at ih ⊢; rw [ih]; rfl
theorem rev_calls (m : Nat) (hm : m ≤ 9223372036854775808) (x : Int) (hx : x = -(m : Int)) (w : World) :
    Calls Tryd.prog 35 #[.int .i64 x] w fun e w' => ∃ k cap, e = .returned (.slice (some ⟨k, 0, none⟩) (digN m).length cap) ∧ w.heap.size ≤ k ∧ (digN m).length ≤ cap ∧ cap ≤ maxLen ∧
      (∀ j (hj : j < (digN m).length), w'.cell? ⟨k, j, none⟩ = some (.int .u8 ((digN m).reverse[j]'(by rw [List.length_reverse]; exact hj)).toNat)) ∧ Below w.heap.size w w' := by
  subst hx
  refine (does_calm does_rev (args := [.v (.int .i64 (-(m : Int)))]) (Q := fun q => q = .own true 5 1 ((digN m).reverse.map encB)) ⟨m, hm, rfl, rfl, rfl⟩ rfl (fun j u hu => ?_)).mono ?_
  · rcases j with _ | j
    · simp at hu; subst hu; exact .v rfl
    · simp at hu
  · rintro e w' ⟨q, g', v, rfl, rfl, ⟨⟨h1, h2, vs, h3, h4, h5, h6⟩, -⟩, hb⟩
    have hlen : ((digN m).reverse.map encB).length = (digN m).length := by simp
    have hp := digF_pos 20 m
    have hp : 1 ≤ (digN m).length := hp
    rw [hlen] at h3
    rcases h3.2 with ⟨hv, hn⟩ | ⟨gb, cap, cur, hv, a1, a2, a3, a4, a5, a6⟩
    · omega
    · subst hv
      refine ⟨gb, cap, rfl, a1, a3, a4, fun j hj => ?_, hb⟩
      have hvl := h3.1
      have hc := ownsRow_cell h3 rfl j (by omega)
      have hget : (flat ((digN m).reverse.map encB))[j]? = some (encB ((digN m).reverse[j]'(by rw [List.length_reverse]; exact hj))) := by
        rw [flat_enc8, List.getElem?_map, List.getElem?_eq_getElem (by rw [List.length_reverse]; exact hj)]; rfl
      have h7 := (rep_v (h5 j _ hget)).1
      rw [hc, h7]
theorem owns_less {w : World} {B base e : Nat} {v : Value} {n : Nat} {xs : List Value} (h : w.ownsRowF base e 1 v n xs) (hB : B ≤ base) : w.ownsRowF B e 1 v n xs := by
  refine ⟨h.1, ?_⟩
  rcases h.2 with h | ⟨g, cap, cur, fz, hv, hb, rest⟩
  · exact .inl h
  · exact .inr ⟨g, cap, cur, fz, hv, Nat.le_trans hB hb, rest⟩
set_option maxHeartbeats 4000000 in
set_option maxRecDepth 100000 in
theorem text_calls (n : Int) (hn : I64 n) (w : World) : Calls Tryd.prog 27 #[.int .i64 n] w fun e w' => e = .returned (.string ⟨(textN n).toArray⟩) ∧ Below w.heap.size w w' := by
  obtain ⟨m, hme, hm⟩ : ∃ m : Nat, m = n.natAbs ∧ m ≤ 9223372036854775808 := ⟨_, rfl, by have := hn.1; have := hn.2; omega⟩
  have hdl := digN_len hm
  have HM := Lib.hid hme
  have hA : (w.alloc (.cells #[.pointer none, .slice none 0 0] 48)).heap[w.heap.size]? = some (.cells #[.pointer none, .slice none 0 0] 48 (0, 0)) := heap_alloc_new w _
  have b0 : Below w.heap.size w (w.alloc (.cells #[.pointer none, .slice none 0 0] 48)) := (Below.refl _ w).alloc (Nat.le_refl _) _
  have hsA : (w.alloc (.cells #[.pointer none, .slice none 0 0] 48)).heap.size = w.heap.size + 1 := by simp
  by_cases hneg : n < 0
  · have hpre : [45] ++ digN m = textN n := by rw [hme]; unfold textN; rw [if_pos hneg]; rfl
    clear hme
    obtain ⟨pre, hpe⟩ : ∃ pre : List UInt8, pre = [45] := ⟨_, rfl⟩
    rw [← hpe] at hpre
    have hpl : pre.length ≤ 1 := by rw [hpe]; decide
    have HPre := Lib.hid hpre
    clear hpre
    go_enter Tryd.func27, Tryd.ntmps27
    go_wp2_with (go_at_call 34; refine (wb_calls w.heap.size w.heap.size _ _ (.inl rfl) [] 45 _ hA (World.ownsRowF_nil _ _ _ _) (by decide) b0.size).mono ?_)
    rintro e W1 ⟨rfl, v1, h1, o1, s1, s2, s3, s4, s5⟩
    go_wp2_with (go_at_call 35; refine (rev_calls m hm n (by have := HM.out; omega) _).mono ?_)
    rintro e W2 ⟨k, cap, rfl, hk, hcap, hcapm, hcell, hb2⟩
    have hk2 : k < W2.heap.size := World.block_lt_of_cell? W2 _ (hcell 0 (by have := digF_pos 20 m; have : 1 ≤ (digN m).length := this; omega))
    have hkB : k ≠ w.heap.size := by omega
    have hB2 : W2.heap[w.heap.size]? = some (.cells #[.pointer (some ⟨w.heap.size, 0, none⟩), v1] 48 (0, 0)) := by rw [hb2.block _ (by omega)]; exact h1
    have ho2 : W2.ownsRowF w.heap.size 5 1 v1 (Lib.byteCells pre).length (Lib.byteCells pre) := by
      rw [hpe]
      exact World.ownsRowF.kept (row := none) o1 ⟨hb2.os, hb2.tape, hb2.output, hb2.size, fun q hq _ => hb2.block q hq⟩ (by cases hv : v1.ownBlock <;> simp)
    have hv1k : v1.ownBlock ≠ some k := fun e => by have := (o1.lt k e).2; omega
    have hbw : Below w.heap.size w W2 := by
      refine b0.trans (Below.trans ⟨s1, s2, s3, s4, fun q hq => s5 q (by omega) (by omega) (by simp [Value.ownBlock])⟩ (hb2.mono (by omega)))
    have hbase : w.heap.size ≤ W2.heap.size := hbw.size
    have hbB : w.heap.size ≤ w.heap.size := Nat.le_refl _
    obtain ⟨base, hbe⟩ : ∃ base, base = w.heap.size := ⟨_, rfl⟩
    rw [← hbe] at ho2 hbase
    have hbB : w.heap.size ≤ base := by omega
    have HEX : Hid (∀ (W : World) (v' : Value) (i : Nat), W.ownsRowF base 5 1 v' (Lib.byteCells (pre ++ (digN m).take i)).length (Lib.byteCells (pre ++ (digN m).take i)) → (∀ j (hj : j < (digN m).length), W.cell? ⟨k, j, none⟩ = some (.int .u8 ((digN m).reverse[j]'(by rw [List.length_reverse]; exact hj)).toNat)) → v'.ownBlock ≠ some k) := Lib.hid fun W v' i ho hC e => by
      have h1 := ho.cells e 0 (.int .u8 45) (by rw [hpe]; rfl)
      have hpos : 0 < (digN m).length := by have := digF_pos 20 m; have : 1 ≤ (digN m).length := this; omega
      have h2 := hC 0 hpos
      have h3 : (⟨k, 0, none⟩ : Addr).add 0 = ⟨k, 0, none⟩ := by simp [Addr.add]
      rw [h3, h2] at h1
      have hd := digN_dig m _ (List.mem_reverse.1 (List.getElem_mem (l := (digN m).reverse) (n := 0) (by rw [List.length_reverse]; exact hpos)))
      have h4 : (((digN m).reverse[0]'(by rw [List.length_reverse]; exact hpos)).toNat : Int) = 45 := by simpa using h1
      have := hd.1
      omega
    clear hpe hA b0 hsA h1 o1 s1 s2 s3 s4 s5 hb2 hbe
    have hcapm : cap ≤ 9223372036854775807 := by unfold maxLen at hcapm; omega
    go_wp2
    go_loopw [15] (fun iv wr => ∃ (i : Nat) (p v : Value), iv = .int .i64 i ∧ i ≤ (digN m).length ∧ (p = .pointer none ∨ p = .pointer (some ⟨w.heap.size, 0, none⟩)) ∧ wr.heap[w.heap.size]? = some (.cells #[p, v] 48 (0, 0)) ∧ wr.ownsRowF base 5 1 v (Lib.byteCells (pre ++ (digN m).take i)).length (Lib.byteCells (pre ++ (digN m).take i)) ∧ v.ownBlock ≠ some k ∧ Hid (∀ j (hj : j < (digN m).length), wr.cell? ⟨k, j, none⟩ = some (.int .u8 ((digN m).reverse[j]'(by rw [List.length_reverse]; exact hj)).toNat)) ∧ base ≤ wr.heap.size ∧ k < wr.heap.size ∧ Below w.heap.size w wr) (fun iv wr => (digN m).length - (intOf iv).toNat)
    case atStart => exact ⟨0, (.pointer (some ⟨w.heap.size, 0, none⟩)), v1, rfl, Nat.zero_le _, (.inr rfl), hB2, by simpa using ho2, hv1k, Lib.hid hcell, hbase, hk2, hbw⟩
    case round =>
      obtain ⟨i, p, v, rfl, hi, hp, hb, ho, hvk, HC, hbs, hks, hbl⟩ := hrel
      by_cases hlt : i < (digN m).length
      · have hc : wr.cell? ⟨k, (digN m).length - 1 - i, none⟩ = some (.int .u8 ((digN m)[i]).toNat) := by
          have hix : (digN m).reverse[(digN m).length - 1 - i]'(by rw [List.length_reverse]; omega) = (digN m)[i] := by
            rw [List.getElem_reverse]
            have : ∀ (a b : Nat) (ha : a < (digN m).length) (hb : b < (digN m).length), a = b → (digN m)[a] = (digN m)[b] := fun a b ha hb e => by subst e; rfl
            exact this _ _ _ _ (by omega)
          rw [HC.out ((digN m).length - 1 - i) (by omega), hix]
        have hstep : Lib.byteCells (pre ++ (digN m).take (i + 1)) = Lib.byteCells (pre ++ (digN m).take i) ++ [.int .u8 ((digN m)[i]).toNat] := by
          rw [List.take_add_one, List.getElem?_eq_getElem hlt, Option.toList_some, ← List.append_assoc, Lib.byteCells_append]; rfl
        have hlen : (Lib.byteCells (pre ++ (digN m).take i)).length ≤ 100 := by
          have := Nat.min_le_right i (digN m).length
          rw [Lib.byteCells_length, List.length_append, List.length_take]; omega
        have HS := Lib.hid hstep
        generalize (digN m)[i] = d at hc hstep HS
        clear hstep
        go_wp2_with (go_at_call 34; refine (wb_calls base w.heap.size p v hp _ _ _ hb ho (by omega) hbs).mono ?_)
        rintro e W ⟨rfl, v', g1, g2, s1, s2, s3, s4, s5⟩
        go_wp2
        go_roundw
        case rel =>
          have hC' : ∀ j (hj : j < (digN m).length), W.cell? ⟨k, j, none⟩ = some (.int .u8 ((digN m).reverse[j]'(by rw [List.length_reverse]; exact hj)).toNat) := fun j hj => by
            rw [World.cell?_of_block (a := ⟨k, j, none⟩) (s5 k hks hkB (fun e => hvk e.symm))]
            exact HC.out j hj
          have g3 : W.ownsRowF base 5 1 v' (Lib.byteCells (pre ++ (digN m).take (i + 1))).length (Lib.byteCells (pre ++ (digN m).take (i + 1))) := by
            rw [HS.out, List.length_append, List.length_singleton]; exact g2
          refine ⟨i + 1, _, v', by go_num, hlt, .inr rfl, g1, g3, HEX.out W v' (i + 1) g3 hC', Lib.hid hC', by omega, by omega, hbl.trans ⟨s1, s2, s3, s4, fun q hq => s5 q (Nat.lt_of_lt_of_le hq hbl.size) (by omega) (fun e => ?_)⟩⟩
          have := (ho.lt q e.symm).1
          omega
        case measure => simp only [intOf]; omega
      · have hiL : i = (digN m).length := by omega
        have hfin : pre ++ (digN m).take i = textN n := by rw [hiL, List.take_length]; exact HPre.out
        rw [hfin] at ho
        have hI : Lib.IsBuilderF 48 5 w.heap.size w.heap.size (Lib.byteCells (textN n)) wr := by
          have h1 : ∀ q, wr.heap[w.heap.size]? = some (.cells #[q, v] 48 (0, 0)) → Lib.BuilderAtF 48 5 w.heap.size w.heap.size q (Lib.byteCells (textN n)) wr := fun q hq => ⟨Nat.le_refl _, v, hq, owns_less ho hbB, Lib.ownBlock_neF ho hq (by decide)⟩
          rcases hp with rfl | rfl
          · exact .inl (h1 _ hb)
          · exact .inr (h1 _ hb)
        go_wp2_with (go_at_call 18; refine (Any.Builder_String_any_k Tryd.bString bxString w.heap.size w.heap.size _ _ hI hbl.size).mono ?_)
        rintro e W ⟨rfl, -, b1, -⟩
        go_wp2
        go_ret
        exact ⟨rfl, hbl.trans b1⟩
  · have hpre : [] ++ digN m = textN n := by rw [hme]; unfold textN; rw [if_neg hneg]; rfl
    clear hme
    obtain ⟨pre, hpe⟩ : ∃ pre : List UInt8, pre = [] := ⟨_, rfl⟩
    rw [← hpe] at hpre
    have hpl : pre.length ≤ 1 := by rw [hpe]; decide
    have HPre := Lib.hid hpre
    clear hpre
    go_enter Tryd.func27, Tryd.ntmps27
    go_wp2_with (go_at_call 35; refine (rev_calls m hm _ (by have h1 := hn.1; have h2 := hn.2; have h3 := HM.out; rw [IntWalk.wrap64_in _ ⟨by omega, by omega⟩]; omega) _).mono ?_; rintro e W2 ⟨k, cap, rfl, hk, hcap, hcapm, hcell, hb2⟩)
    have hk2 : k < W2.heap.size := World.block_lt_of_cell? W2 _ (hcell 0 (by have := digF_pos 20 m; have : 1 ≤ (digN m).length := this; omega))
    have hkB : k ≠ w.heap.size := by omega
    obtain ⟨v1, hv1⟩ : ∃ v1 : Value, v1 = .slice none 0 0 := ⟨_, rfl⟩
    have hB2 : W2.heap[w.heap.size]? = some (.cells #[.pointer none, v1] 48 (0, 0)) := by rw [hv1, hb2.block _ (by omega)]; exact hA
    have hv1k : v1.ownBlock ≠ some k := by rw [hv1]; simp [Value.ownBlock]
    have hbw : Below w.heap.size w W2 := b0.trans (hb2.mono (by omega))
    obtain ⟨base, hbe⟩ : ∃ base, base = k + 1 := ⟨_, rfl⟩
    have hbase : base ≤ W2.heap.size := by omega
    have ho2 : W2.ownsRowF base 5 1 v1 (Lib.byteCells pre).length (Lib.byteCells pre) := by
      rw [hv1, hpe]; exact World.ownsRowF_nil _ _ _ _
    have hbB : w.heap.size ≤ base := by omega
    have HEX : Hid (∀ (W : World) (v' : Value) (i : Nat), W.ownsRowF base 5 1 v' (Lib.byteCells (pre ++ (digN m).take i)).length (Lib.byteCells (pre ++ (digN m).take i)) → (∀ j (hj : j < (digN m).length), W.cell? ⟨k, j, none⟩ = some (.int .u8 ((digN m).reverse[j]'(by rw [List.length_reverse]; exact hj)).toNat)) → v'.ownBlock ≠ some k) := Lib.hid fun W v' i ho _ e => by
      have := (ho.lt k e).1
      omega
    clear hpe hA b0 hsA hb2 hbe hv1
    have hcapm : cap ≤ 9223372036854775807 := by unfold maxLen at hcapm; omega
    try go_wp2
    go_loopw [15] (fun iv wr => ∃ (i : Nat) (p v : Value), iv = .int .i64 i ∧ i ≤ (digN m).length ∧ (p = .pointer none ∨ p = .pointer (some ⟨w.heap.size, 0, none⟩)) ∧ wr.heap[w.heap.size]? = some (.cells #[p, v] 48 (0, 0)) ∧ wr.ownsRowF base 5 1 v (Lib.byteCells (pre ++ (digN m).take i)).length (Lib.byteCells (pre ++ (digN m).take i)) ∧ v.ownBlock ≠ some k ∧ Hid (∀ j (hj : j < (digN m).length), wr.cell? ⟨k, j, none⟩ = some (.int .u8 ((digN m).reverse[j]'(by rw [List.length_reverse]; exact hj)).toNat)) ∧ base ≤ wr.heap.size ∧ k < wr.heap.size ∧ Below w.heap.size w wr) (fun iv wr => (digN m).length - (intOf iv).toNat)
    case atStart => exact ⟨0, (.pointer none), v1, rfl, Nat.zero_le _, (.inl rfl), hB2, by simpa using ho2, hv1k, Lib.hid hcell, hbase, hk2, hbw⟩
    case round =>
      obtain ⟨i, p, v, rfl, hi, hp, hb, ho, hvk, HC, hbs, hks, hbl⟩ := hrel
      by_cases hlt : i < (digN m).length
      · have hc : wr.cell? ⟨k, (digN m).length - 1 - i, none⟩ = some (.int .u8 ((digN m)[i]).toNat) := by
          have hix : (digN m).reverse[(digN m).length - 1 - i]'(by rw [List.length_reverse]; omega) = (digN m)[i] := by
            rw [List.getElem_reverse]
            have : ∀ (a b : Nat) (ha : a < (digN m).length) (hb : b < (digN m).length), a = b → (digN m)[a] = (digN m)[b] := fun a b ha hb e => by subst e; rfl
            exact this _ _ _ _ (by omega)
          rw [HC.out ((digN m).length - 1 - i) (by omega), hix]
        have hstep : Lib.byteCells (pre ++ (digN m).take (i + 1)) = Lib.byteCells (pre ++ (digN m).take i) ++ [.int .u8 ((digN m)[i]).toNat] := by
          rw [List.take_add_one, List.getElem?_eq_getElem hlt, Option.toList_some, ← List.append_assoc, Lib.byteCells_append]; rfl
        have hlen : (Lib.byteCells (pre ++ (digN m).take i)).length ≤ 100 := by
          have := Nat.min_le_right i (digN m).length
          rw [Lib.byteCells_length, List.length_append, List.length_take]; omega
        have HS := Lib.hid hstep
        generalize (digN m)[i] = d at hc hstep HS
        clear hstep
        go_wp2_with (go_at_call 34; refine (wb_calls base w.heap.size p v hp _ _ _ hb ho (by omega) hbs).mono ?_)
        rintro e W ⟨rfl, v', g1, g2, s1, s2, s3, s4, s5⟩
        go_wp2
        go_roundw
        case rel =>
          have hC' : ∀ j (hj : j < (digN m).length), W.cell? ⟨k, j, none⟩ = some (.int .u8 ((digN m).reverse[j]'(by rw [List.length_reverse]; exact hj)).toNat) := fun j hj => by
            rw [World.cell?_of_block (a := ⟨k, j, none⟩) (s5 k hks hkB (fun e => hvk e.symm))]
            exact HC.out j hj
          have g3 : W.ownsRowF base 5 1 v' (Lib.byteCells (pre ++ (digN m).take (i + 1))).length (Lib.byteCells (pre ++ (digN m).take (i + 1))) := by
            rw [HS.out, List.length_append, List.length_singleton]; exact g2
          refine ⟨i + 1, _, v', by go_num, hlt, .inr rfl, g1, g3, HEX.out W v' (i + 1) g3 hC', Lib.hid hC', by omega, by omega, hbl.trans ⟨s1, s2, s3, s4, fun q hq => s5 q (Nat.lt_of_lt_of_le hq hbl.size) (by omega) (fun e => ?_)⟩⟩
          have := (ho.lt q e.symm).1
          omega
        case measure => simp only [intOf]; omega
      · have hiL : i = (digN m).length := by omega
        have hfin : pre ++ (digN m).take i = textN n := by rw [hiL, List.take_length]; exact HPre.out
        rw [hfin] at ho
        have hI : Lib.IsBuilderF 48 5 w.heap.size w.heap.size (Lib.byteCells (textN n)) wr := by
          have h1 : ∀ q, wr.heap[w.heap.size]? = some (.cells #[q, v] 48 (0, 0)) → Lib.BuilderAtF 48 5 w.heap.size w.heap.size q (Lib.byteCells (textN n)) wr := fun q hq => ⟨Nat.le_refl _, v, hq, owns_less ho hbB, Lib.ownBlock_neF ho hq (by decide)⟩
          rcases hp with rfl | rfl
          · exact .inl (h1 _ hb)
          · exact .inr (h1 _ hb)
        go_wp2_with (go_at_call 18; refine (Any.Builder_String_any_k Tryd.bString bxString w.heap.size w.heap.size _ _ hI hbl.size).mono ?_)
        rintro e W ⟨rfl, -, b1, -⟩
        go_wp2
        go_ret
        exact ⟨rfl, hbl.trans b1⟩
theorem does_text : Does Tryd.prog 27 rtextSpec :=
  does_of_plain ⟨Tryd.f27, Tryd.func27, by kernel_rfl, by decide +kernel⟩ fun args h Q ⟨n, hn, ha, hq⟩ =>
    ⟨[.int .i64 n], .string ⟨(textN n).toArray⟩, _, ha, hq, fun w g B => Rep.v rfl, fun w => text_calls n hn w⟩
end Go.Proofs.Lx
/- Lines of rows, and rows of lines. -/
set_option linter.unusedSimpArgs false
set_option linter.unusedVariables false
namespace Go.Proofs.Lx
open Go.Vm Go.RowKit
attribute [local irreducible] awpArr awpBin awpMake awpAppend awpCvX awpStrOf awpBinX awpSlice awpBS awpStore awpAlloc awpCopy awpIndex awpDraw awpIdxX awpFa awpField awpLookup awpUpdate awpDelete awpClear awpRange awpNext awpEntry awpBuild awpClearS awpIdxL awpTree appB awpIdxO eltA treeA
theorem joinC_len : ∀ ws : List (List UInt8), (∀ w ∈ ws, w.length ≤ 20) → (joinC ws).length ≤ 21 * ws.length
  | [], _ => Nat.zero_le _
  | [w], h => by have := h w (by simp); simp only [joinC, List.length_singleton]; omega
  | w :: v :: r, h => by
    have h1 := h w (by simp)
    have ih := joinC_len (v :: r) fun w hw => h w (List.mem_cons_of_mem _ hw)
    show (w ++ 44 :: joinC (v :: r)).length ≤ _
    simp only [List.length_append, List.length_cons] at ih ⊢; omega
theorem joinC_snoc (w : List UInt8) : ∀ ws : List (List UInt8), joinC (ws ++ [w]) = if ws = [] then w else joinC ws ++ 44 :: w
  | [] => rfl
  | [v] => rfl
  | v :: u :: r => by
    have ih := joinC_snoc w (u :: r)
    rw [if_neg (by simp)] at ih
    rw [if_neg (by simp)]
    show v ++ 44 :: joinC (u :: r ++ [w]) = (v ++ 44 :: joinC (u :: r)) ++ 44 :: w
    rw [ih]; simp
theorem nums_ok {r : Rw} (h : r.ok) : ∀ n ∈ r.nums, I64 n := by
  obtain ⟨h1, h2, h3, h4, h5, h6⟩ := h
  intro n hn
  simp only [Rw.nums, List.mem_cons, List.not_mem_nil, or_false] at hn
  rcases hn with rfl | rfl | rfl | rfl | rfl | rfl <;> assumption
theorem nums_len (r : Rw) : r.nums.length = 6 := rfl
theorem texts_le {l : List Int} (h : ∀ n ∈ l, I64 n) : ∀ w ∈ l.map textN, w.length ≤ 20 := fun w hw => by
  obtain ⟨n, hn, rfl⟩ := List.mem_map.1 hw
  exact (text_len (h n hn)).2
def lineSpec : Vm.Spec := fun args h Q => ∃ r : Rw, r.ok ∧ args = [rwAv r] ∧ Q (strA (lineR r)) h
set_option maxHeartbeats 2000000 in
theorem does_line : Does Tryd.prog 17 lineSpec := by
  refine does_of_awp (good_cons does_rnums (good_cons does_text (good_cons does_join good_nil))) Tryd.func17 rfl (by decide +kernel) (by decide +kernel) ?_
  rintro args h Q ⟨r, hr, rfl, hq⟩
  refine ⟨by simp [Tryd.f17], ?_⟩
  rw [awpFunc_some (by rfl)]
  have hok := nums_ok hr
  have hln := nums_len r
  simp only [strA] at hq
  simp only [rwAv, rwCells]
  simp -dsimp only [Vm.G, List.lookup, Nat.reduceAdd, Nat.reduceBEq, Int.reduceBNe, Int.reduceBEq, Nat.reduceLeDiff, q17]
  refine call_one (S := rnumsSpec) rfl _ GaL.rfl ⟨r, rfl, ?_⟩
  generalize hN : r.nums = N at hok hln ⊢
  simp -dsimp only [Vm.G, List.lookup, Nat.reduceAdd, Nat.reduceBEq, Int.reduceBNe, Int.reduceBEq, Nat.reduceLeDiff, q17]
  refine awp_loop (fun m s h' => ∃ i : Nat, i + m = 6 ∧ h' = h ∧ s = mk [(3, .own true 9 1 (((N.take i).map textN).map strA)), (7, .agg (N.map iv)), (8, .v (.int .i64 (i : Nat)))])
    6 _ (le_mk _ ?_) ⟨0, by omega, rfl, rfl⟩ ?_
  · simp only [List.forall_mem_cons, List.not_mem_nil, false_imp_iff, implies_true, and_true]
    try simp -dsimp only [Vm.G, List.lookup, Nat.reduceAdd, Nat.reduceBEq, Int.reduceBNe, Int.reduceBEq, Nat.reduceLeDiff, q17]
    repeat' first | exact Fg.refl _ | exact Fg.nil _ _ _ (by decide) | refine And.intro ?_ ?_
  · rintro m s h' ⟨i, hi, rfl, rfl⟩
    simp -dsimp only [Vm.G, List.lookup, Nat.reduceAdd, Nat.reduceBEq, Int.reduceBNe, Int.reduceBEq, Nat.reduceLeDiff, q17]
    refine cond_intro (fun hcc => ?_) (fun hcc => ?_)
    · have hlt : i < N.length := by have := of_decide_eq_true hcc; omega
      have hw : IntKind.i64.wrap ((i : Int) + 1) = ((i + 1 : Nat) : Int) := by rw [wrap_i64 (by omega) (by omega)]; simp
      have hx := hok N[i] (List.getElem_mem hlt)
      have htk : N.take (i + 1) = N.take i ++ [N[i]] := by rw [List.take_add_one, List.getElem?_eq_getElem hlt]; rfl
      have hget : (N.map iv)[((i : Nat) : Int).toNat]? = some (.v (.int .i64 N[i])) := by rw [Int.toNat_natCast, List.getElem?_map, List.getElem?_eq_getElem hlt]; rfl
      generalize N[i] = x at hx htk hget
      simp -dsimp only [Vm.G, List.lookup, Nat.reduceAdd, Nat.reduceBEq, Int.reduceBNe, Int.reduceBEq, Nat.reduceLeDiff, q17]
      refine index_arr Tryd.underlying56 Tryd.underlying3 (by kernel_rfl) (by omega) (by omega) hget ?_
      simp -dsimp only [Vm.G, List.lookup, Nat.reduceAdd, Nat.reduceBEq, Int.reduceBNe, Int.reduceBEq, Nat.reduceLeDiff, q17]
      refine call_one (S := rtextSpec) rfl _ GaL.rfl ⟨x, hx, rfl, ?_⟩
      simp only [strA]
      simp -dsimp only [Vm.G, List.lookup, Nat.reduceAdd, Nat.reduceBEq, Int.reduceBNe, Int.reduceBEq, Nat.reduceLeDiff, q17]
      refine bs_intro zr9 (by decide) (by decide) rfl rfl (by simp [solid, AV.cells]) ?_
      simp -dsimp only [Vm.G, List.lookup, Nat.reduceAdd, Nat.reduceBEq, Int.reduceBNe, Int.reduceBEq, Nat.reduceLeDiff, q17]
      refine app_sl Tryd.underlying54 (by simp [AV.cells]) (by simp only [List.length_map, List.length_take, List.length_cons, List.length_nil]; omega) ?_
      simp -dsimp only [Vm.G, List.lookup, Nat.reduceAdd, Nat.reduceBEq, Int.reduceBNe, Int.reduceBEq, Nat.reduceLeDiff, q17]
      refine kept_intro ⟨6 - (i + 1), by omega, _, le_mk [(3, .own true 9 1 (((N.take (i + 1)).map textN).map strA)), (7, .agg (N.map iv)), (8, .v (.int .i64 (i + 1 : Nat)))] ?_, i + 1, by omega, rfl, rfl⟩
      simp only [List.forall_mem_cons, List.not_mem_nil, false_imp_iff, implies_true, and_true, hw, htk, List.map_append, List.map_cons, List.map_nil, strA]
      try simp -dsimp only [Vm.G, List.lookup, Nat.reduceAdd, Nat.reduceBEq, Int.reduceBNe, Int.reduceBEq, Nat.reduceLeDiff, q17, hw, htk, List.map_append, List.map_cons, List.map_nil, strA]
      repeat' first | exact Fg.refl _ | exact Fg.nil _ _ _ (by decide) | refine And.intro ?_ ?_
    · have hge : ¬ i < 6 := by have := of_decide_eq_false hcc; omega
      rw [List.take_of_length_le (by omega)]
      have hjl := joinC_len (N.map textN) (texts_le hok)
      rw [List.length_map, hln] at hjl
      simp -dsimp only [Vm.G, List.lookup, Nat.reduceAdd, Nat.reduceBEq, Int.reduceBNe, Int.reduceBEq, Nat.reduceLeDiff, q17]
      have hj1 : N.map textN ≠ [] := by
        intro e
        rw [List.map_eq_nil_iff] at e
        rw [e] at hln
        cases hln
      have hj2 : (N.map textN).length ≤ 140737488355328 := by rw [List.length_map, hln]; decide
      have hj3 : (joinC (N.map textN)).length ≤ 140737488355328 := by omega
      refine call_one (S := joinSpec) rfl _ GaL.rfl ⟨N.map textN, hj1, hj2, hj3, rfl, ?_⟩
      simp only [strA]
      simp -dsimp only [Vm.G, List.lookup, Nat.reduceAdd, Nat.reduceBEq, Int.reduceBNe, Int.reduceBEq, Nat.reduceLeDiff, q17]
      have hq : Q (.v (.string ⟨(joinC (r.nums.map textN)).toArray⟩)) h' := hq
      rw [hN] at hq
      exact hq
theorem splitC_le : ∀ (s : List UInt8), ∀ w ∈ splitC s, w.length ≤ s.length
  | [], w, hw => by simp [splitC] at hw; subst hw; simp
  | c :: r, w, hw => by
    have ih := splitC_le r
    unfold splitC at hw
    split at hw
    · rcases List.mem_cons.1 hw with rfl | hw
      · simp
      · have := ih w hw; rw [List.length_cons]; omega
    · revert hw ih
      cases splitC r with
      | nil => intro ih hw; simp at hw; subst hw; simp
      | cons v vs =>
        intro ih hw
        rcases List.mem_cons.1 hw with rfl | hw
        · have := ih v (by simp); rw [List.length_cons, List.length_cons]; omega
        · have := ih w (List.mem_cons_of_mem _ hw); rw [List.length_cons]; omega
theorem putc_succ (x : AV) (cs : List AV) (k : Nat) (ys : List AV) : putCells (x :: cs) (k + 1) ys = x :: putCells cs k ys := by
  unfold putCells
  rw [Nat.add_right_comm]; rfl
theorem put_rep (v : Int) (n : Nat) : ∀ done : List Int, putCells (done.map iv ++ List.replicate (n + 1) (iv 0)) done.length [iv v] = (done ++ [v]).map iv ++ List.replicate n (iv 0)
  | [] => by simp [putCells, List.replicate_succ]
  | d :: r => by
    simp only [List.map_cons, List.cons_append, List.length_cons]
    rw [putc_succ, put_rep v n r]
def parseSpec : Vm.Spec := fun args h Q => ∃ s : List UInt8, s.length ≤ 1073741824 ∧ args = [strA s] ∧ Q (.tup [rwAv (parseP s).1, .v (.bool (parseP s).2)]) h
theorem six {α : Type} {l : List α} (h : l.length = 6) : ∃ a b c d e f, l = [a, b, c, d, e, f] := by
  match l, h with
  | [a, b, c, d, e, f], _ => exact ⟨a, b, c, d, e, f, rfl⟩
set_option maxRecDepth 20000 in
set_option maxHeartbeats 2000000 in
theorem does_parse : Does Tryd.prog 13 parseSpec := by
  refine does_of_awp (good_cons does_spl (good_cons does_numP (good_cons does_row (good_cons does_line good_nil)))) Tryd.func13 rfl (by decide +kernel) (by decide +kernel) ?_
  rintro args h Q ⟨s, hl, rfl, hq⟩
  refine ⟨by simp [Tryd.f13], ?_⟩
  rw [awpFunc_some (by rfl)]
  have hle := splitC_le s
  have hcl := splitC_count s
  have hcc := List.count_le_length (a := (44 : UInt8)) (l := s)
  unfold parseP at hq
  simp only [strA]
  simp -dsimp only [Vm.G, List.lookup, Nat.reduceAdd, Nat.reduceBEq, Int.reduceBNe, Int.reduceBEq, Nat.reduceLeDiff, q13]
  refine call_one (S := splSpec) rfl _ GaL.rfl ⟨s, hl, rfl, ?_⟩
  have hW : ∃ W, W = splitC s := ⟨_, rfl⟩
  rcases hW with ⟨W, hW⟩
  rw [← hW] at hq hle hcl ⊢
  simp -dsimp only [Vm.G, List.lookup, Nat.reduceAdd, Nat.reduceBEq, Int.reduceBNe, Int.reduceBEq, Nat.reduceLeDiff, q13, List.length_map]
  by_cases h6 : W.length = 6
  · have c1 : (((W.length : Nat) : Int) != 6) = false := by rw [h6]; rfl
    rw [if_pos h6] at hq
    simp -dsimp only [Vm.G, List.lookup, Nat.reduceAdd, Nat.reduceBEq, Int.reduceBNe, Int.reduceBEq, Nat.reduceLeDiff, q13, c1, List.length_map]
    refine awp_loop (fun m s' h' => ∃ i : Nat, i + m = 6 ∧ h' = h ∧ s' = mk [(0, .v (.string ⟨s.toArray⟩)), (2, .box [.v (.int .i64 0), .v (.int .i64 0), .v (.int .i64 0), .v (.int .i64 0), .v (.int .i64 0), .v (.int .i64 0)]), (5, .box (((W.map numP).take i).map iv ++ List.replicate (6 - i) (iv 0))), (15, .sl 1 (W.map strA)), (16, .v (.int .i64 (W.length : Nat))), (17, .v (.int .i64 (i : Nat)))])
      6 _ (le_mk _ ?_) ⟨0, by omega, rfl, rfl⟩ ?_
    · simp only [List.forall_mem_cons, List.not_mem_nil, false_imp_iff, implies_true, and_true, iv]
      try simp -dsimp only [Vm.G, List.lookup, Nat.reduceAdd, Nat.reduceBEq, Int.reduceBNe, Int.reduceBEq, Nat.reduceLeDiff, q13, iv]
      repeat' first | exact Fg.refl _ | exact Fg.nil _ _ _ (by decide) | refine And.intro ?_ ?_
    · rintro m s' h' ⟨i, hi, rfl, rfl⟩
      simp -dsimp only [Vm.G, List.lookup, Nat.reduceAdd, Nat.reduceBEq, Int.reduceBNe, Int.reduceBEq, Nat.reduceLeDiff, q13]
      refine cond_intro (fun hcc => ?_) (fun hcc => ?_)
      · have hlt : i < W.length := by have := of_decide_eq_true hcc; omega
        have hw : IntKind.i64.wrap ((i : Int) + 1) = ((i + 1 : Nat) : Int) := by rw [wrap_i64 (by omega) (by omega)]; simp
        have hwl := hle W[i] (List.getElem_mem hlt)
        have htk : (W.map numP).take (i + 1) = (W.map numP).take i ++ [numP W[i]] := by rw [List.take_add_one, List.getElem?_map, List.getElem?_eq_getElem hlt]; rfl
        have hdl : ((W.map numP).take i).length = i := by rw [List.length_take, List.length_map]; omega
        have hpr := put_rep (numP W[i]) (6 - (i + 1)) ((W.map numP).take i)
        rw [hdl, ← htk] at hpr
        rw [show 6 - i = 6 - (i + 1) + 1 by omega]
        have hcl2 : (((W.map numP).take i).map iv ++ List.replicate (6 - (i + 1) + 1) (iv 0)).length = 6 := by rw [List.length_append, List.length_map, hdl, List.length_replicate]; omega
        simp -dsimp only [Vm.G, List.lookup, Nat.reduceAdd, Nat.reduceBEq, Int.reduceBNe, Int.reduceBEq, Nat.reduceLeDiff, q13]
        refine idx_mp strA W i hlt ?_
        have hxe : ∃ x, W[i] = x := ⟨_, rfl⟩
        rcases hxe with ⟨x, hx⟩
        rw [hx] at hwl htk hpr
        simp only [hx, strA]
        simp -dsimp only [Vm.G, List.lookup, Nat.reduceAdd, Nat.reduceBEq, Int.reduceBNe, Int.reduceBEq, Nat.reduceLeDiff, q13, AV.cells]
        refine call_one (S := numSpec numP) rfl _ GaL.rfl ⟨x, by omega, rfl, ?_⟩
        simp only [iv] at hpr hcl2 ⊢
        generalize ((W.map numP).take i).map iv ++ List.replicate (6 - (i + 1) + 1) (AV.v (.int .i64 0)) = C at hpr hcl2 ⊢
        simp -dsimp only [Vm.G, List.lookup, Nat.reduceAdd, Nat.reduceBEq, Int.reduceBNe, Int.reduceBEq, Nat.reduceLeDiff, q13]
        refine arr_place (by omega) (by omega) ?_
        simp only [Int.toNat_natCast, Nat.zero_add, Nat.mul_one]
        simp -dsimp only [Vm.E, List.lookup, Nat.reduceAdd, Nat.reduceBEq, Int.reduceBNe, Int.reduceBEq, Bool.true_beq, Bool.false_beq, q13]
        have hst : i + 1 ≤ C.length := by omega
        refine store_place C (by simp -dsimp only [Vm.E, List.lookup, Nat.reduceAdd, Nat.reduceBEq, Int.reduceBNe, Int.reduceBEq, Bool.true_beq, Bool.false_beq]) rfl rfl hst ?_
        simp only [AV.cells]
        rw [hpr]
        simp -dsimp only [Vm.G, List.lookup, Nat.reduceAdd, Nat.reduceBEq, Int.reduceBNe, Int.reduceBEq, Nat.reduceLeDiff, q13]
        refine kept_intro ⟨6 - (i + 1), by omega, _, le_mk [(0, .v (.string ⟨s.toArray⟩)), (2, .box [.v (.int .i64 0), .v (.int .i64 0), .v (.int .i64 0), .v (.int .i64 0), .v (.int .i64 0), .v (.int .i64 0)]), (5, .box (((W.map numP).take (i + 1)).map iv ++ List.replicate (6 - (i + 1)) (iv 0))), (15, .sl 1 (W.map strA)), (16, .v (.int .i64 (W.length : Nat))), (17, .v (.int .i64 (i + 1 : Nat)))] ?_, i + 1, by omega, rfl, rfl⟩
        simp only [List.forall_mem_cons, List.not_mem_nil, false_imp_iff, implies_true, and_true, hw, iv]
        try simp -dsimp only [Vm.G, List.lookup, Nat.reduceAdd, Nat.reduceBEq, Int.reduceBNe, Int.reduceBEq, Nat.reduceLeDiff, q13, hw, iv]
        repeat' first | exact Fg.refl _ | exact Fg.nil _ _ _ (by decide) | refine And.intro ?_ ?_
      · have hge : ¬ i < W.length := by have := of_decide_eq_false hcc; omega
        have hi6 : i = 6 := by omega
        have hnl : (W.map numP).length = 6 := by rw [List.length_map]; exact h6
        have hok := parseP_ok s
        unfold parseP at hok
        rw [← hW, if_pos h6] at hok
        rw [hi6, List.take_of_length_le (by omega), Nat.sub_self]
        obtain ⟨a, b, c, d, e, f, hN⟩ := six hnl
        rw [hN] at hq hok ⊢
        have hro : rowOf [a, b, c, d, e, f] = ⟨a, b, c, d, e, f⟩ := rfl
        rw [hro] at hq hok
        have hok : (⟨a, b, c, d, e, f⟩ : Rw).ok := hok
        simp only [List.map_cons, List.map_nil, iv, List.replicate_zero, List.append_nil, rwAv, rwCells] at hq ⊢
        simp -dsimp only [Vm.G, List.lookup, Nat.reduceAdd, Nat.reduceBEq, Int.reduceBNe, Int.reduceBEq, Nat.reduceLeDiff, q13]
        refine call_one (S := rowSpec) rfl _ GaL.rfl ⟨a, b, c, d, e, f, rfl, ?_⟩
        simp only [rwAv, rwCells]
        simp -dsimp only [Vm.G, List.lookup, Nat.reduceAdd, Nat.reduceBEq, Int.reduceBNe, Int.reduceBEq, Nat.reduceLeDiff, q13]
        refine draw_cont [] (.take 3 (.alt 0 (.alt 1 (.alt 2 (.take 4 (.alt 5 (.alt 6 (.done) .stop) .stop)) .stop) .stop) (.alt 1 (.alt 0 (.alt 2 (.take 4 (.alt 5 (.alt 6 (.done) .stop) .stop)) .stop) (.alt 2 (.take 4 (.alt 0 (.alt 5 (.alt 6 (.done) .stop) .stop) .stop)) (.stop))) (.stop)))) (fun s2 h2 => h2 = h' ∧ s2 2 = .box [.v (.int .i64 a), .v (.int .i64 b), .v (.int .i64 c), .v (.int .i64 d), .v (.int .i64 e), .v (.int .i64 f)] ∧ s2 3 = .v (.bool (lineR ⟨a, b, c, d, e, f⟩ == s))) (by kernel_rfl) (by kernel_rfl) (by kernel_rfl) (by decide) ?_ ?_
        · clear hq
          repeat' first
            | with_reducible exact True.intro
            | (refine call_one (S := lineSpec) rfl _ GaL.rfl ⟨⟨a, b, c, d, e, f⟩, hok, rfl, ?_⟩; simp only [strA])
            | simp -dsimp only [Vm.G, List.lookup, Nat.reduceAdd, Nat.reduceBEq, Int.reduceBNe, Int.reduceBEq, Nat.reduceLeDiff, q13, str_eql, toList_mk]
            | refine tree_alt ?_ ?_
            | repeat' first | rfl | exact True.intro | refine And.intro ?_ ?_
        · rintro s2 h2 ⟨rfl, e2, e3⟩
          simp -dsimp only [Vm.G, List.lookup, Nat.reduceAdd, Nat.reduceBEq, Int.reduceBNe, Int.reduceBEq, Nat.reduceLeDiff, q13, e2, e3]
          exact hq
  · have c1 : (((W.length : Nat) : Int) != 6) = true := by simp only [bne_iff_ne, ne_eq]; omega
    rw [if_neg h6] at hq
    simp only [rwAv, rwCells] at hq
    simp -dsimp only [Vm.G, List.lookup, Nat.reduceAdd, Nat.reduceBEq, Int.reduceBNe, Int.reduceBEq, Nat.reduceLeDiff, q13, c1]
    exact hq
def rln49Spec : Vm.Spec := fun args h Q => ∃ r : Rw, r.ok ∧ args = [rwAv r] ∧ Q (strA (lineR r ++ [10])) h
set_option maxHeartbeats 2000000 in
theorem does_rln49 : Does Tryd.prog 15 rln49Spec := by
  refine does_of_awp (good_cons does_rtext good_nil) Tryd.func15 rfl (by decide +kernel) (by decide +kernel) ?_
  rintro args h Q ⟨r, hr, rfl, hq⟩
  refine ⟨by simp [Tryd.f15], ?_⟩
  rw [awpFunc_some (by rfl)]
  have hok := nums_ok hr
  have hln := nums_len r
  simp only [strA] at hq
  have hNe : ∃ N, N = r.nums := ⟨_, rfl⟩
  rcases hNe with ⟨N, hN⟩
  have hNl : [AV.v (.int .i64 r.id), .v (.int .i64 r.year), .v (.int .i64 r.kind), .v (.int .i64 r.fund), .v (.int .i64 r.obj), .v (.int .i64 r.amt)] = N.map iv := by rw [hN]; rfl
  have hqe : lineR r = joinC (N.map textN) := by rw [hN]; rfl
  rw [hqe] at hq
  rw [← hN] at hok hln
  simp only [rwAv, rwCells]
  simp -dsimp only [Vm.G, List.lookup, Nat.reduceAdd, Nat.reduceBEq, Int.reduceBNe, Int.reduceBEq, Nat.reduceLeDiff, q15]
  refine bs_intro zr3 (by decide) (by decide) rfl rfl (by simp [solid, AV.cells]) ?_
  rw [hNl]
  clear hNl hN hqe
  simp -dsimp only [Vm.G, List.lookup, Nat.reduceAdd, Nat.reduceBEq, Int.reduceBNe, Int.reduceBEq, Nat.reduceLeDiff, q15]
  refine awp_loop (fun m s h' => ∃ i : Nat, i + m = 6 ∧ h' = h ∧ s = mk [(3, .own true 3 1 (N.map iv)), (4, .v (.string ⟨(joinC ((N.take i).map textN)).toArray⟩)), (5, .v (.int .i64 (i : Nat)))])
    6 _ (le_mk _ ?_) ⟨0, by omega, rfl, rfl⟩ ?_
  · simp only [List.forall_mem_cons, List.not_mem_nil, false_imp_iff, implies_true, and_true, joinC, List.take_zero, List.map_nil]
    try simp -dsimp only [Vm.G, List.lookup, Nat.reduceAdd, Nat.reduceBEq, Int.reduceBNe, Int.reduceBEq, Nat.reduceLeDiff, q15, joinC, List.take_zero, List.map_nil]
    repeat' first | exact Fg.refl _ | exact Fg.nil _ _ _ (by decide) | refine And.intro ?_ ?_
  · rintro m s h' ⟨i, hi, rfl, rfl⟩
    simp -dsimp only [Vm.G, List.lookup, Nat.reduceAdd, Nat.reduceBEq, Int.reduceBNe, Int.reduceBEq, Nat.reduceLeDiff, q15, List.length_map, hln]
    refine cond_intro (fun hcc => ?_) (fun hcc => ?_)
    · have hlt : i < N.length := by have := of_decide_eq_true hcc; omega
      have hw : IntKind.i64.wrap ((i : Int) + 1) = ((i + 1 : Nat) : Int) := by rw [wrap_i64 (by omega) (by omega)]; simp
      have hx := hok N[i] (List.getElem_mem hlt)
      have htk : N.take (i + 1) = N.take i ++ [N[i]] := by rw [List.take_add_one, List.getElem?_eq_getElem hlt]; rfl
      have hget : (N.map iv)[((i : Nat) : Int).toNat]? = some (.v (.int .i64 N[i])) := by rw [Int.toNat_natCast, List.getElem?_map, List.getElem?_eq_getElem hlt]; rfl
      have hjl := joinC_len ((N.take i).map textN) (texts_le fun n hn => hok n (List.mem_of_mem_take hn))
      have htl : ((N.take i).map textN).length = i := by rw [List.length_map, List.length_take]; omega
      have hjs := joinC_snoc (textN N[i]) ((N.take i).map textN)
      have htx := (text_len hx).2
      rw [htl] at hjl
      have hjs : joinC ((N.take (i + 1)).map textN) = if ((N.take i).map textN) = [] then textN N[i] else joinC ((N.take i).map textN) ++ 44 :: textN N[i] := by rw [htk, List.map_append]; exact hjs
      generalize N[i] = x at hx htk hget hjs htx
      by_cases h0 : i = 0
      · have c0 : decide (((i : Nat) : Int) > 0) = false := decide_eq_false (by omega)
        have hem : (N.take i).map textN = [] := List.eq_nil_of_length_eq_zero (by omega)
        rw [if_pos hem] at hjs
        rw [hem]
        have hj0 : joinC [] = [] := rfl
        rw [hj0]
        simp -dsimp only [Vm.G, List.lookup, Nat.reduceAdd, Nat.reduceBEq, Int.reduceBNe, Int.reduceBEq, Nat.reduceLeDiff, q15, c0]
        refine idxO_intro (by omega) (by simp; omega) ?_
        simp -dsimp only [Vm.G, List.lookup, Nat.reduceAdd, Nat.reduceBEq, Int.reduceBNe, Int.reduceBEq, Nat.reduceLeDiff, q15]
        refine eltA_intro hget ?_
        simp -dsimp only [Vm.G, List.lookup, Nat.reduceAdd, Nat.reduceBEq, Int.reduceBNe, Int.reduceBEq, Nat.reduceLeDiff, q15, AV.cells, List.drop_zero]
        refine call_one (S := rtextSpec) rfl _ GaL.rfl ⟨x, hx, rfl, ?_⟩
        simp only [strA]
        simp -dsimp only [Vm.G, List.lookup, Nat.reduceAdd, Nat.reduceBEq, Int.reduceBNe, Int.reduceBEq, Nat.reduceLeDiff, q15]
        refine add_str (by simp; omega) ?_
        rw [List.nil_append]
        simp -dsimp only [Vm.G, List.lookup, Nat.reduceAdd, Nat.reduceBEq, Int.reduceBNe, Int.reduceBEq, Nat.reduceLeDiff, q15]
        refine kept_intro ⟨6 - (i + 1), by omega, _, le_mk [(3, .own true 3 1 (N.map iv)), (4, .v (.string ⟨(joinC ((N.take (i + 1)).map textN)).toArray⟩)), (5, .v (.int .i64 (i + 1 : Nat)))] ?_, i + 1, by omega, rfl, rfl⟩
        simp only [List.forall_mem_cons, List.not_mem_nil, false_imp_iff, implies_true, and_true, hw, hjs]
        try simp -dsimp only [Vm.G, List.lookup, Nat.reduceAdd, Nat.reduceBEq, Int.reduceBNe, Int.reduceBEq, Nat.reduceLeDiff, q15, hw, hjs]
        repeat' first | exact Fg.refl _ | exact Fg.nil _ _ _ (by decide) | refine And.intro ?_ ?_
      · have c0 : decide (((i : Nat) : Int) > 0) = true := decide_eq_true (by omega)
        rw [if_neg (fun e => by rw [e] at htl; simp at htl; omega)] at hjs
        generalize joinC ((N.take i).map textN) = J at hjl hjs ⊢
        simp -dsimp only [Vm.G, List.lookup, Nat.reduceAdd, Nat.reduceBEq, Int.reduceBNe, Int.reduceBEq, Nat.reduceLeDiff, q15, c0]
        refine add_str (b := [44]) (by simp; omega) ?_
        simp -dsimp only [Vm.G, List.lookup, Nat.reduceAdd, Nat.reduceBEq, Int.reduceBNe, Int.reduceBEq, Nat.reduceLeDiff, q15]
        refine idxO_intro (by omega) (by simp; omega) ?_
        simp -dsimp only [Vm.G, List.lookup, Nat.reduceAdd, Nat.reduceBEq, Int.reduceBNe, Int.reduceBEq, Nat.reduceLeDiff, q15]
        refine eltA_intro hget ?_
        simp -dsimp only [Vm.G, List.lookup, Nat.reduceAdd, Nat.reduceBEq, Int.reduceBNe, Int.reduceBEq, Nat.reduceLeDiff, q15, AV.cells, List.drop_zero]
        refine call_one (S := rtextSpec) rfl _ GaL.rfl ⟨x, hx, rfl, ?_⟩
        simp only [strA]
        simp -dsimp only [Vm.G, List.lookup, Nat.reduceAdd, Nat.reduceBEq, Int.reduceBNe, Int.reduceBEq, Nat.reduceLeDiff, q15]
        refine add_str (by simp; omega) ?_
        have hjs : (J ++ [44]) ++ textN x = joinC ((N.take (i + 1)).map textN) := by rw [hjs]; simp
        rw [hjs]
        simp -dsimp only [Vm.G, List.lookup, Nat.reduceAdd, Nat.reduceBEq, Int.reduceBNe, Int.reduceBEq, Nat.reduceLeDiff, q15]
        refine kept_intro ⟨6 - (i + 1), by omega, _, le_mk [(3, .own true 3 1 (N.map iv)), (4, .v (.string ⟨(joinC ((N.take (i + 1)).map textN)).toArray⟩)), (5, .v (.int .i64 (i + 1 : Nat)))] ?_, i + 1, by omega, rfl, rfl⟩
        simp only [List.forall_mem_cons, List.not_mem_nil, false_imp_iff, implies_true, and_true, hw]
        try simp -dsimp only [Vm.G, List.lookup, Nat.reduceAdd, Nat.reduceBEq, Int.reduceBNe, Int.reduceBEq, Nat.reduceLeDiff, q15, hw]
        repeat' first | exact Fg.refl _ | exact Fg.nil _ _ _ (by decide) | refine And.intro ?_ ?_
    · have hge : ¬ i < 6 := by have := of_decide_eq_false hcc; omega
      rw [List.take_of_length_le (by omega)]
      have hjl := joinC_len (N.map textN) (texts_le hok)
      rw [List.length_map, hln] at hjl
      simp -dsimp only [Vm.G, List.lookup, Nat.reduceAdd, Nat.reduceBEq, Int.reduceBNe, Int.reduceBEq, Nat.reduceLeDiff, q15]
      refine add_str (b := [10]) (by simp; omega) ?_
      simp -dsimp only [Vm.G, List.lookup, Nat.reduceAdd, Nat.reduceBEq, Int.reduceBNe, Int.reduceBEq, Nat.reduceLeDiff, q15]
      exact hq
theorem pad6 (l : List Int) (h : l.length ≤ 6) : l.map iv ++ List.replicate (6 - l.length) (iv 0) = [iv (l.getD 0 0), iv (l.getD 1 0), iv (l.getD 2 0), iv (l.getD 3 0), iv (l.getD 4 0), iv (l.getD 5 0)] := by
  match l, h with
  | [], _ => rfl
  | [a], _ => rfl
  | [a, b], _ => rfl
  | [a, b, c], _ => rfl
  | [a, b, c, d], _ => rfl
  | [a, b, c, d, e], _ => rfl
  | [a, b, c, d, e, f], _ => rfl
  | _ :: _ :: _ :: _ :: _ :: _ :: _ :: _, h => simp at h
def rrowSpec : Vm.Spec := fun args h Q => ∃ s : List UInt8, s.length ≤ 1073741824 ∧ args = [strA s] ∧ Q (rwAv (rowR s)) h
set_option maxRecDepth 20000 in
set_option maxHeartbeats 2000000 in
theorem does_rrow : Does Tryd.prog 14 rrowSpec := by
  refine does_of_awp (good_cons does_numR good_nil) Tryd.func14 rfl (by decide +kernel) (by decide +kernel) ?_
  rintro args h Q ⟨s, hl, rfl, hq⟩
  refine ⟨by simp [Tryd.f14], ?_⟩
  rw [awpFunc_some (by rfl)]
  have hsz := sz_mk s
  simp only [strA]
  simp -dsimp only [Vm.G, List.lookup, Nat.reduceAdd, Nat.reduceBEq, Int.reduceBNe, Int.reduceBEq, Nat.reduceLeDiff, q14]
  refine awp_loop (fun m s' h' => ∃ (i fr : Nat) (done : List (List UInt8)), i + m = s.length ∧ fr ≤ i ∧ done.length ≤ 6 ∧ termW [] s = done ++ termW ((s.take i).drop fr) (s.drop i) ∧ h' = h ∧ s' = mk [(0, .v (.string ⟨s.toArray⟩)), (2, .box [.v (.int .i64 0), .v (.int .i64 0), .v (.int .i64 0), .v (.int .i64 0), .v (.int .i64 0), .v (.int .i64 0)]), (3, .box ((done.map numR).map iv ++ List.replicate (6 - done.length) (iv 0))), (4, .v (.int .i64 (fr : Nat))), (5, .v (.int .i64 (done.length : Nat))), (6, .v (.int .i64 (i : Nat)))])
    s.length _ (le_mk _ ?_) ⟨0, 0, [], by omega, Nat.le_refl _, by simp, by simp, rfl, rfl⟩ ?_
  · simp only [List.forall_mem_cons, List.not_mem_nil, false_imp_iff, implies_true, and_true, iv]
    try simp -dsimp only [Vm.G, List.lookup, Nat.reduceAdd, Nat.reduceBEq, Int.reduceBNe, Int.reduceBEq, Nat.reduceLeDiff, q14, iv]
    repeat' first | exact Fg.refl _ | exact Fg.nil _ _ _ (by decide) | refine And.intro ?_ ?_
  · rintro m s' h' ⟨i, fr, done, hi, hfr, hk, ht, rfl, rfl⟩
    simp -dsimp only [Vm.G, List.lookup, Nat.reduceAdd, Nat.reduceBEq, Int.reduceBNe, Int.reduceBEq, Nat.reduceLeDiff, q14, hsz]
    by_cases hlt : i < s.length
    · have c1 : decide (((i : Nat) : Int) < ((s.length : Nat) : Int)) = true := decide_eq_true (by omega)
      by_cases hk6 : done.length < 6
      · have c2 : decide (((done.length : Nat) : Int) < 6) = true := decide_eq_true (by omega)
        have hw : IntKind.i64.wrap ((i : Int) + 1) = ((i + 1 : Nat) : Int) := by rw [wrap_i64 (by omega) (by omega)]; simp
        have hdr : s.drop i = s[i] :: s.drop (i + 1) := List.drop_eq_getElem_cons hlt
        have hgd : s[((i : Nat) : Int).toNat]? = some s[i] := by rw [Int.toNat_natCast, List.getElem?_eq_getElem hlt]
        have htk : s.take (i + 1) = s.take i ++ [s[i]] := by rw [List.take_add_one, List.getElem?_eq_getElem hlt]; rfl
        generalize s[i] = c at hdr hgd htk
        rw [hdr] at ht
        have hstep : (c = 44 ∨ c = 10) → termW [] s = (done ++ [(s.take i).drop fr]) ++ termW ((s.take (i + 1)).drop (i + 1)) (s.drop (i + 1)) := fun hc => by
          have e0 : (s.take (i + 1)).drop (i + 1) = [] := List.drop_of_length_le (by rw [List.length_take]; omega)
          rw [e0, ht]
          conv => lhs; arg 2; unfold termW
          rw [if_pos hc]; simp
        have hmove : ¬ (c = 44 ∨ c = 10) → termW [] s = done ++ termW ((s.take (i + 1)).drop fr) (s.drop (i + 1)) := fun hc => by
          have e0 : (s.take (i + 1)).drop fr = (s.take i).drop fr ++ [c] := by rw [htk, List.drop_append_of_le_length (by rw [List.length_take]; omega)]
          rw [e0, ht]
          conv => lhs; arg 2; unfold termW
          rw [if_neg hc]
        simp -dsimp only [Vm.G, List.lookup, Nat.reduceAdd, Nat.reduceBEq, Int.reduceBNe, Int.reduceBEq, Nat.reduceLeDiff, q14, c1]
        simp -dsimp only [Vm.G, List.lookup, Nat.reduceAdd, Nat.reduceBEq, Int.reduceBNe, Int.reduceBEq, Nat.reduceLeDiff, q14, c2]
        refine at_str Tryd.underlying9 (by omega) hgd ?_
        simp -dsimp only [Vm.G, List.lookup, Nat.reduceAdd, Nat.reduceBEq, Int.reduceBNe, Int.reduceBEq, Nat.reduceLeDiff, q14]
        by_cases h44 : c = 44
        · have c3 : ((c.toNat : Int) == 44) = true := by rw [h44]; rfl
          have hst := hstep (.inl h44)
          clear hmove hstep
          simp -dsimp only [Vm.G, List.lookup, Nat.reduceAdd, Nat.reduceBEq, Int.reduceBNe, Int.reduceBEq, Nat.reduceLeDiff, q14, c3]
          refine mid_str (l := fr) (m := i) Tryd.underlying9 rfl (fun _ => rfl) hfr (by omega) ?_
          simp -dsimp only [Vm.G, List.lookup, Nat.reduceAdd, Nat.reduceBEq, Int.reduceBNe, Int.reduceBEq, Nat.reduceLeDiff, q14]
          refine call_one (S := numSpec numR) rfl _ GaL.rfl ⟨(s.take i).drop fr, by rw [List.length_drop, List.length_take]; omega, rfl, ?_⟩
          have hpr := put_rep (numR ((s.take i).drop fr)) (6 - (done.length + 1)) (done.map numR)
          rw [List.length_map, show done.map numR ++ [numR ((s.take i).drop fr)] = (done ++ [(s.take i).drop fr]).map numR by rw [List.map_append]; rfl] at hpr
          rw [show 6 - done.length = 6 - (done.length + 1) + 1 by omega]
          have hcl2 : ((done.map numR).map iv ++ List.replicate (6 - (done.length + 1) + 1) (iv 0)).length = 6 := by rw [List.length_append, List.length_map, List.length_map, List.length_replicate]; omega
          have hw2 : IntKind.i64.wrap (((done.length : Nat) : Int) + 1) = ((done.length + 1 : Nat) : Int) := by rw [wrap_i64 (by omega) (by omega)]; simp
          simp only [iv] at hpr hcl2 ⊢
          generalize (done.map numR).map iv ++ List.replicate (6 - (done.length + 1) + 1) (AV.v (.int .i64 0)) = C at hpr hcl2 ⊢
          simp -dsimp only [Vm.G, List.lookup, Nat.reduceAdd, Nat.reduceBEq, Int.reduceBNe, Int.reduceBEq, Nat.reduceLeDiff, q14]
          refine arr_place (by omega) (by omega) ?_
          simp only [Int.toNat_natCast, Nat.zero_add, Nat.mul_one]
          simp -dsimp only [Vm.E, List.lookup, Nat.reduceAdd, Nat.reduceBEq, Int.reduceBNe, Int.reduceBEq, Bool.true_beq, Bool.false_beq, q14]
          have hsto : done.length + 1 ≤ C.length := by omega
          refine store_place C (by simp -dsimp only [Vm.E, List.lookup, Nat.reduceAdd, Nat.reduceBEq, Int.reduceBNe, Int.reduceBEq, Bool.true_beq, Bool.false_beq]) rfl rfl hsto ?_
          simp only [AV.cells]
          rw [hpr]
          simp -dsimp only [Vm.G, List.lookup, Nat.reduceAdd, Nat.reduceBEq, Int.reduceBNe, Int.reduceBEq, Nat.reduceLeDiff, q14]
          refine kept_intro ⟨s.length - (i + 1), by omega, _, le_mk [(0, .v (.string ⟨s.toArray⟩)), (2, .box [.v (.int .i64 0), .v (.int .i64 0), .v (.int .i64 0), .v (.int .i64 0), .v (.int .i64 0), .v (.int .i64 0)]), (3, .box ((((done ++ [(s.take i).drop fr]).map numR)).map iv ++ List.replicate (6 - (done.length + 1)) (iv 0))), (4, .v (.int .i64 ((i + 1) : Nat))), (5, .v (.int .i64 ((done.length + 1) : Nat))), (6, .v (.int .i64 ((i + 1) : Nat)))] ?_, i + 1, i + 1, done ++ [(s.take i).drop fr], by omega, Nat.le_refl _, by rw [List.length_append, List.length_singleton]; omega, hst, rfl, by rw [List.length_append, List.length_singleton]; rfl⟩
          simp only [List.forall_mem_cons, List.not_mem_nil, false_imp_iff, implies_true, and_true, hw, hw2, iv]
          try simp -dsimp only [Vm.G, List.lookup, Nat.reduceAdd, Nat.reduceBEq, Int.reduceBNe, Int.reduceBEq, Nat.reduceLeDiff, q14, hw, hw2, iv]
          repeat' first | exact Fg.refl _ | exact Fg.nil _ _ _ (by decide) | refine And.intro ?_ ?_
        · have c3 : ((c.toNat : Int) == 44) = false := by
            simp only [beq_eq_false_iff_ne]
            intro e
            exact h44 (UInt8.toNat_inj.1 (by have : c.toNat = 44 := by omega
                                             rw [this]; rfl))
          simp -dsimp only [Vm.G, List.lookup, Nat.reduceAdd, Nat.reduceBEq, Int.reduceBNe, Int.reduceBEq, Nat.reduceLeDiff, q14, c3]
          refine at_str Tryd.underlying9 (by omega) hgd ?_
          by_cases h10 : c = 10
          · have c4 : ((c.toNat : Int) == 10) = true := by rw [h10]; rfl
            have hst := hstep (.inr h10)
            clear hmove hstep
            simp -dsimp only [Vm.G, List.lookup, Nat.reduceAdd, Nat.reduceBEq, Int.reduceBNe, Int.reduceBEq, Nat.reduceLeDiff, q14, c4]
            refine mid_str (l := fr) (m := i) Tryd.underlying9 rfl (fun _ => rfl) hfr (by omega) ?_
            simp -dsimp only [Vm.G, List.lookup, Nat.reduceAdd, Nat.reduceBEq, Int.reduceBNe, Int.reduceBEq, Nat.reduceLeDiff, q14]
            refine call_one (S := numSpec numR) rfl _ GaL.rfl ⟨(s.take i).drop fr, by rw [List.length_drop, List.length_take]; omega, rfl, ?_⟩
            have hpr := put_rep (numR ((s.take i).drop fr)) (6 - (done.length + 1)) (done.map numR)
            rw [List.length_map, show done.map numR ++ [numR ((s.take i).drop fr)] = (done ++ [(s.take i).drop fr]).map numR by rw [List.map_append]; rfl] at hpr
            rw [show 6 - done.length = 6 - (done.length + 1) + 1 by omega]
            have hcl2 : ((done.map numR).map iv ++ List.replicate (6 - (done.length + 1) + 1) (iv 0)).length = 6 := by rw [List.length_append, List.length_map, List.length_map, List.length_replicate]; omega
            have hw2 : IntKind.i64.wrap (((done.length : Nat) : Int) + 1) = ((done.length + 1 : Nat) : Int) := by rw [wrap_i64 (by omega) (by omega)]; simp
            simp only [iv] at hpr hcl2 ⊢
            generalize (done.map numR).map iv ++ List.replicate (6 - (done.length + 1) + 1) (AV.v (.int .i64 0)) = C at hpr hcl2 ⊢
            simp -dsimp only [Vm.G, List.lookup, Nat.reduceAdd, Nat.reduceBEq, Int.reduceBNe, Int.reduceBEq, Nat.reduceLeDiff, q14]
            refine arr_place (by omega) (by omega) ?_
            simp only [Int.toNat_natCast, Nat.zero_add, Nat.mul_one]
            simp -dsimp only [Vm.E, List.lookup, Nat.reduceAdd, Nat.reduceBEq, Int.reduceBNe, Int.reduceBEq, Bool.true_beq, Bool.false_beq, q14]
            have hsto : done.length + 1 ≤ C.length := by omega
            refine store_place C (by simp -dsimp only [Vm.E, List.lookup, Nat.reduceAdd, Nat.reduceBEq, Int.reduceBNe, Int.reduceBEq, Bool.true_beq, Bool.false_beq]) rfl rfl hsto ?_
            simp only [AV.cells]
            rw [hpr]
            simp -dsimp only [Vm.G, List.lookup, Nat.reduceAdd, Nat.reduceBEq, Int.reduceBNe, Int.reduceBEq, Nat.reduceLeDiff, q14]
            refine kept_intro ⟨s.length - (i + 1), by omega, _, le_mk [(0, .v (.string ⟨s.toArray⟩)), (2, .box [.v (.int .i64 0), .v (.int .i64 0), .v (.int .i64 0), .v (.int .i64 0), .v (.int .i64 0), .v (.int .i64 0)]), (3, .box ((((done ++ [(s.take i).drop fr]).map numR)).map iv ++ List.replicate (6 - (done.length + 1)) (iv 0))), (4, .v (.int .i64 ((i + 1) : Nat))), (5, .v (.int .i64 ((done.length + 1) : Nat))), (6, .v (.int .i64 ((i + 1) : Nat)))] ?_, i + 1, i + 1, done ++ [(s.take i).drop fr], by omega, Nat.le_refl _, by rw [List.length_append, List.length_singleton]; omega, hst, rfl, by rw [List.length_append, List.length_singleton]; rfl⟩
            simp only [List.forall_mem_cons, List.not_mem_nil, false_imp_iff, implies_true, and_true, hw, hw2, iv]
            try simp -dsimp only [Vm.G, List.lookup, Nat.reduceAdd, Nat.reduceBEq, Int.reduceBNe, Int.reduceBEq, Nat.reduceLeDiff, q14, hw, hw2, iv]
            repeat' first | exact Fg.refl _ | exact Fg.nil _ _ _ (by decide) | refine And.intro ?_ ?_
          · have c4 : ((c.toNat : Int) == 10) = false := by
              simp only [beq_eq_false_iff_ne]
              intro e
              exact h10 (UInt8.toNat_inj.1 (by have : c.toNat = 10 := by omega
                                               rw [this]; rfl))
            have hst := hmove (fun e => e.elim h44 h10)
            clear hmove hstep
            simp -dsimp only [Vm.G, List.lookup, Nat.reduceAdd, Nat.reduceBEq, Int.reduceBNe, Int.reduceBEq, Nat.reduceLeDiff, q14, c4]
            refine kept_intro ⟨s.length - (i + 1), by omega, _, le_mk [(0, .v (.string ⟨s.toArray⟩)), (2, .box [.v (.int .i64 0), .v (.int .i64 0), .v (.int .i64 0), .v (.int .i64 0), .v (.int .i64 0), .v (.int .i64 0)]), (3, .box ((done.map numR).map iv ++ List.replicate (6 - done.length) (iv 0))), (4, .v (.int .i64 (fr : Nat))), (5, .v (.int .i64 (done.length : Nat))), (6, .v (.int .i64 ((i + 1) : Nat)))] ?_, i + 1, fr, done, by omega, by omega, hk, hst, rfl, rfl⟩
            simp only [List.forall_mem_cons, List.not_mem_nil, false_imp_iff, implies_true, and_true, hw]
            try simp -dsimp only [Vm.G, List.lookup, Nat.reduceAdd, Nat.reduceBEq, Int.reduceBNe, Int.reduceBEq, Nat.reduceLeDiff, q14, hw]
            repeat' first | exact Fg.refl _ | exact Fg.nil _ _ _ (by decide) | refine And.intro ?_ ?_
      · have c2 : decide (((done.length : Nat) : Int) < 6) = false := decide_eq_false (by omega)
        have htake : (termW [] s).take 6 = done := by rw [ht, List.take_left' (by omega)]
        simp -dsimp only [Vm.G, List.lookup, Nat.reduceAdd, Nat.reduceBEq, Int.reduceBNe, Int.reduceBEq, Nat.reduceLeDiff, q14, c1]
        simp -dsimp only [Vm.G, List.lookup, Nat.reduceAdd, Nat.reduceBEq, Int.reduceBNe, Int.reduceBEq, Nat.reduceLeDiff, q14, c2]
        have hq : Q (rwAv (padR ((done.map numR)))) h' := by
          have : rowR s = padR (done.map numR) := by unfold rowR; rw [htake]
          rw [← this]; exact hq
        have hdl : (done.map numR).length = done.length := List.length_map _
        rw [← hdl, pad6 _ (by omega)]
        unfold padR at hq
        generalize (done.map numR).getD 0 0 = n0 at hq ⊢
        generalize (done.map numR).getD 1 0 = n1 at hq ⊢
        generalize (done.map numR).getD 2 0 = n2 at hq ⊢
        generalize (done.map numR).getD 3 0 = n3 at hq ⊢
        generalize (done.map numR).getD 4 0 = n4 at hq ⊢
        generalize (done.map numR).getD 5 0 = n5 at hq ⊢
        simp only [rwAv, rwCells, iv] at hq ⊢
        try simp -dsimp only [Vm.G, List.lookup, Nat.reduceAdd, Nat.reduceBEq, Int.reduceBNe, Int.reduceBEq, Nat.reduceLeDiff, q14]
        refine arr_place ?_ ?_ ?_
        · decide
        · decide
        simp -dsimp only [Vm.G, List.lookup, Nat.reduceAdd, Nat.reduceBEq, Int.reduceBNe, Int.reduceBEq, Nat.reduceLeDiff, q14, Int.reduceToNat, Nat.reduceMul, Nat.mul_one, Nat.zero_add, List.drop_zero, List.drop_succ_cons]
        refine arr_place ?_ ?_ ?_
        · decide
        · decide
        simp -dsimp only [Vm.G, List.lookup, Nat.reduceAdd, Nat.reduceBEq, Int.reduceBNe, Int.reduceBEq, Nat.reduceLeDiff, q14, Int.reduceToNat, Nat.reduceMul, Nat.mul_one, Nat.zero_add, List.drop_zero, List.drop_succ_cons]
        refine arr_place ?_ ?_ ?_
        · decide
        · decide
        simp -dsimp only [Vm.G, List.lookup, Nat.reduceAdd, Nat.reduceBEq, Int.reduceBNe, Int.reduceBEq, Nat.reduceLeDiff, q14, Int.reduceToNat, Nat.reduceMul, Nat.mul_one, Nat.zero_add, List.drop_zero, List.drop_succ_cons]
        refine arr_place ?_ ?_ ?_
        · decide
        · decide
        simp -dsimp only [Vm.G, List.lookup, Nat.reduceAdd, Nat.reduceBEq, Int.reduceBNe, Int.reduceBEq, Nat.reduceLeDiff, q14, Int.reduceToNat, Nat.reduceMul, Nat.mul_one, Nat.zero_add, List.drop_zero, List.drop_succ_cons]
        refine arr_place ?_ ?_ ?_
        · decide
        · decide
        simp -dsimp only [Vm.G, List.lookup, Nat.reduceAdd, Nat.reduceBEq, Int.reduceBNe, Int.reduceBEq, Nat.reduceLeDiff, q14, Int.reduceToNat, Nat.reduceMul, Nat.mul_one, Nat.zero_add, List.drop_zero, List.drop_succ_cons]
        refine arr_place ?_ ?_ ?_
        · decide
        · decide
        simp -dsimp only [Vm.G, List.lookup, Nat.reduceAdd, Nat.reduceBEq, Int.reduceBNe, Int.reduceBEq, Nat.reduceLeDiff, q14, Int.reduceToNat, Nat.reduceMul, Nat.mul_one, Nat.zero_add, List.drop_zero, List.drop_succ_cons]
        exact hq
    · have c1 : decide (((i : Nat) : Int) < ((s.length : Nat) : Int)) = false := decide_eq_false (by omega)
      have htake : (termW [] s).take 6 = done := by
        have e0 : s.drop i = [] := List.drop_of_length_le (by omega)
        rw [ht, e0]
        have : termW ((s.take i).drop fr) [] = [] := by simp [termW]
        rw [this, List.append_nil, List.take_of_length_le (by omega)]
      simp -dsimp only [Vm.G, List.lookup, Nat.reduceAdd, Nat.reduceBEq, Int.reduceBNe, Int.reduceBEq, Nat.reduceLeDiff, q14, c1]
      have hq : Q (rwAv (padR ((done.map numR)))) h' := by
        have : rowR s = padR (done.map numR) := by unfold rowR; rw [htake]
        rw [← this]; exact hq
      have hdl : (done.map numR).length = done.length := List.length_map _
      rw [← hdl, pad6 _ (by omega)]
      unfold padR at hq
      generalize (done.map numR).getD 0 0 = n0 at hq ⊢
      generalize (done.map numR).getD 1 0 = n1 at hq ⊢
      generalize (done.map numR).getD 2 0 = n2 at hq ⊢
      generalize (done.map numR).getD 3 0 = n3 at hq ⊢
      generalize (done.map numR).getD 4 0 = n4 at hq ⊢
      generalize (done.map numR).getD 5 0 = n5 at hq ⊢
      simp only [rwAv, rwCells, iv] at hq ⊢
      try simp -dsimp only [Vm.G, List.lookup, Nat.reduceAdd, Nat.reduceBEq, Int.reduceBNe, Int.reduceBEq, Nat.reduceLeDiff, q14]
      refine arr_place ?_ ?_ ?_
      · decide
      · decide
      simp -dsimp only [Vm.G, List.lookup, Nat.reduceAdd, Nat.reduceBEq, Int.reduceBNe, Int.reduceBEq, Nat.reduceLeDiff, q14, Int.reduceToNat, Nat.reduceMul, Nat.mul_one, Nat.zero_add, List.drop_zero, List.drop_succ_cons]
      refine arr_place ?_ ?_ ?_
      · decide
      · decide
      simp -dsimp only [Vm.G, List.lookup, Nat.reduceAdd, Nat.reduceBEq, Int.reduceBNe, Int.reduceBEq, Nat.reduceLeDiff, q14, Int.reduceToNat, Nat.reduceMul, Nat.mul_one, Nat.zero_add, List.drop_zero, List.drop_succ_cons]
      refine arr_place ?_ ?_ ?_
      · decide
      · decide
      simp -dsimp only [Vm.G, List.lookup, Nat.reduceAdd, Nat.reduceBEq, Int.reduceBNe, Int.reduceBEq, Nat.reduceLeDiff, q14, Int.reduceToNat, Nat.reduceMul, Nat.mul_one, Nat.zero_add, List.drop_zero, List.drop_succ_cons]
      refine arr_place ?_ ?_ ?_
      · decide
      · decide
      simp -dsimp only [Vm.G, List.lookup, Nat.reduceAdd, Nat.reduceBEq, Int.reduceBNe, Int.reduceBEq, Nat.reduceLeDiff, q14, Int.reduceToNat, Nat.reduceMul, Nat.mul_one, Nat.zero_add, List.drop_zero, List.drop_succ_cons]
      refine arr_place ?_ ?_ ?_
      · decide
      · decide
      simp -dsimp only [Vm.G, List.lookup, Nat.reduceAdd, Nat.reduceBEq, Int.reduceBNe, Int.reduceBEq, Nat.reduceLeDiff, q14, Int.reduceToNat, Nat.reduceMul, Nat.mul_one, Nat.zero_add, List.drop_zero, List.drop_succ_cons]
      refine arr_place ?_ ?_ ?_
      · decide
      · decide
      simp -dsimp only [Vm.G, List.lookup, Nat.reduceAdd, Nat.reduceBEq, Int.reduceBNe, Int.reduceBEq, Nat.reduceLeDiff, q14, Int.reduceToNat, Nat.reduceMul, Nat.mul_one, Nat.zero_add, List.drop_zero, List.drop_succ_cons]
      exact hq
end Go.Proofs.Lx
/- All rows of a text: the program's, the reference's; what is written. -/
set_option linter.unusedSimpArgs false
set_option linter.unusedVariables false
namespace Go.Proofs.Lx
open Go.Vm Go.RowKit
attribute [local irreducible] awpArr awpBin awpMake awpAppend awpCvX awpStrOf awpBinX awpSlice awpBS awpStore awpAlloc awpCopy awpIndex awpDraw awpIdxX awpFa awpField awpLookup awpUpdate awpDelete awpClear awpRange awpNext awpEntry awpBuild awpClearS awpIdxL awpTree appB awpIdxO eltA treeA
/-- Rows that are answered: a slice, or nil. -/
def rowsV (x : AV) (l : List Rw) : Prop := x = .sl 6 (l.map rwAv) ∨ (l = [] ∧ x = .v (.slice none 0 0))
def csvSpec (f : List UInt8 → List Rw × Int × Int) : Vm.Spec := fun args h Q => ∃ s : List UInt8, s.length ≤ 1000000 ∧ args = [strA s] ∧ ∀ x, rowsV x (f s).1 → Q (.tup [x, iv (f s).2.1, iv (f s).2.2]) h
set_option maxRecDepth 20000 in
set_option maxHeartbeats 4000000 in
theorem does_csvP : Does Tryd.prog 6 (csvSpec csvP) := by
  refine does_of_awp (good_cons does_cut (good_cons does_parse good_nil)) Tryd.func6 rfl (by decide +kernel) (by decide +kernel) ?_
  rintro args h Q ⟨s, hl, rfl, hq⟩
  refine ⟨by simp [Tryd.f6], ?_⟩
  rw [awpFunc_some (by rfl)]
  have hsz := sz_mk s
  have hem : (ByteArray.mk #[]).toList = [] := by simp [ByteArray.toList_eq]
  have hem2 : ByteArray.empty.toList = [] := by simp [ByteArray.toList_eq]
  have hgt : decide (((s.length : Nat) : Int) > 1048576) = false := decide_eq_false (by omega)
  generalize hX : csvP s = X at hq
  rcases X with ⟨xl, xn, xe⟩
  simp only [strA, iv] at hq ⊢
  simp -dsimp only [Vm.G, List.lookup, Nat.reduceAdd, Nat.reduceBEq, Int.reduceBNe, Int.reduceBEq, Nat.reduceLeDiff, q6, hsz]
  simp -dsimp only [Vm.G, List.lookup, Nat.reduceAdd, Nat.reduceBEq, Int.reduceBNe, Int.reduceBEq, Nat.reduceLeDiff, q6, hgt]
  refine awp_loop (fun m s' h' => ∃ (a k : Nat) (r : List UInt8) (out : List Rw) (b : Bool), r.length + (if b = true then 1 else 0) ≤ m ∧ r.length < k ∧ a + r.length ≤ 1000000 ∧ out.length ≤ a ∧ (b = true → goP k a r out = (xl, xn, xe)) ∧ (b = false → (out, (0 : Int), (0 : Int)) = (xl, xn, xe)) ∧ h' = h ∧ s' = mk [(0, .v (.string ⟨r.toArray⟩)), (5, .own true 36 6 ((out).map rwAv)), (6, .v (.int .i64 (a : Nat))), (7, .v (.bool b))])
    (s.length + 1) _ (le_mk _ ?_) ⟨0, s.length + 1, s, [], true, by simp, by omega, by omega, by simp, fun _ => hX, fun h => by simp at h, rfl, rfl⟩ ?_
  · simp only [List.forall_mem_cons, List.not_mem_nil, false_imp_iff, implies_true, and_true]
    try simp -dsimp only [Vm.G, List.lookup, Nat.reduceAdd, Nat.reduceBEq, Int.reduceBNe, Int.reduceBEq, Nat.reduceLeDiff, q6]
    repeat' first | exact Fg.refl _ | exact Fg.nil _ _ _ (by decide) | refine And.intro ?_ ?_
  · clear hX hgt
    rintro m s' h' ⟨a, k, r, out, b, hm, hk, ha, hol, hb1, hb0, rfl, rfl⟩
    cases b with
    | false =>
      have hb0 := hb0 rfl
      simp only [Prod.mk.injEq] at hb0
      rcases hb0 with ⟨rfl, rfl, rfl⟩
      simp -dsimp only [Vm.G, List.lookup, Nat.reduceAdd, Nat.reduceBEq, Int.reduceBNe, Int.reduceBEq, Nat.reduceLeDiff, q6]
      exact hq _ (.inl rfl)
    | true =>
      have hb1 := hb1 rfl
      clear hb0
      rw [if_pos rfl] at hm
      obtain ⟨k', rfl⟩ : ∃ k', k = k' + 1 := ⟨k - 1, by omega⟩
      unfold goP okP at hb1
      have hcl : (cutN r).2.2 = true → (cutN r).2.1.length < r.length := fun h => cutN_len h
      have hc1l : (cutN r).1.length ≤ r.length := by
        by_cases h10 : 10 ∈ r
        · rw [cutN_mem h10, List.length_take]; omega
        · rw [cutN_none h10]; exact Nat.le_refl _
      have hw : IntKind.i64.wrap (((a : Nat) : Int) + 1) = ((a + 1 : Nat) : Int) := by rw [wrap_i64 (by omega) (by omega)]; simp
      by_cases h0 : a = 0
      · have c0 : (((a + 1 : Nat) : Int) == 1) = true := by rw [h0]; rfl
        rw [if_pos h0] at hb1
        have hout : outCsv a r out = out := by rw [h0]; rfl
        rw [hout] at hb1
        simp -dsimp only [Vm.G, List.lookup, Nat.reduceAdd, Nat.reduceBEq, Int.reduceBNe, Int.reduceBEq, Nat.reduceLeDiff, q6]
        refine call_one (S := cutSpec) rfl _ GaL.rfl ⟨r, by omega, rfl, ?_⟩
        generalize cutN r = q at hb1 hcl hc1l ⊢
        rcases q with ⟨q1, q2, qb⟩
        simp only [strA] at hb1 hcl hc1l ⊢
        simp -dsimp only [Vm.G, List.lookup, Nat.reduceAdd, Nat.reduceBEq, Int.reduceBNe, Int.reduceBEq, Nat.reduceLeDiff, q6, hw]
        simp -dsimp only [Vm.G, List.lookup, Nat.reduceAdd, Nat.reduceBEq, Int.reduceBNe, Int.reduceBEq, Nat.reduceLeDiff, q6, c0]
        cases qb with
        | false =>
          simp only [Bool.false_and, Bool.false_eq_true, if_false] at hb1
          simp -dsimp only [Vm.G, List.lookup, Nat.reduceAdd, Nat.reduceBEq, Int.reduceBNe, Int.reduceBEq, Nat.reduceLeDiff, q6]
          simp only [Prod.mk.injEq] at hb1
          rcases hb1 with ⟨rfl, rfl, rfl⟩
          have ea : ((a : Nat) : Int) + 1 = ((a + 1 : Nat) : Int) := by simp
          rw [ea] at hq
          exact hq _ (.inr ⟨rfl, rfl⟩)
        | true =>
          have hcl := hcl rfl
          rw [Bool.true_and] at hb1
          simp -dsimp only [Vm.G, List.lookup, Nat.reduceAdd, Nat.reduceBEq, Int.reduceBNe, Int.reduceBEq, Nat.reduceLeDiff, q6, str_eql, toList_mk]
          have hhd : (q1 == ([105, 100, 44, 121, 101, 97, 114, 44, 107, 105, 110, 100, 44, 102, 117, 110, 100, 44, 111, 98, 106, 101, 99, 116, 44, 97, 109, 111, 117, 110, 116] : List UInt8)) = (q1 == headB) := rfl
          cases c1 : (q1 == headB)
          · rw [c1, if_neg (by decide)] at hb1
            simp -dsimp only [Vm.G, List.lookup, Nat.reduceAdd, Nat.reduceBEq, Int.reduceBNe, Int.reduceBEq, Nat.reduceLeDiff, q6, hhd, c1]
            simp only [Prod.mk.injEq] at hb1
            rcases hb1 with ⟨rfl, rfl, rfl⟩
            have ea : ((a : Nat) : Int) + 1 = ((a + 1 : Nat) : Int) := by simp
            rw [ea] at hq
            exact hq _ (.inr ⟨rfl, rfl⟩)
          · rw [c1, if_pos rfl] at hb1
            simp -dsimp only [Vm.G, List.lookup, Nat.reduceAdd, Nat.reduceBEq, Int.reduceBNe, Int.reduceBEq, Nat.reduceLeDiff, q6, hhd, c1, str_neq, toList_mk, hem, hem2]
            cases c2 : (q2 == ([] : List UInt8))
            · have d2 : ¬ q2 = [] := by simpa using c2
              rw [if_neg d2] at hb1
              try simp -dsimp only [Vm.G, List.lookup, Nat.reduceAdd, Nat.reduceBEq, Int.reduceBNe, Int.reduceBEq, Nat.reduceLeDiff, q6, c2]
              refine kept_intro ⟨r.length, by omega, _, le_mk [(0, .v (.string ⟨q2.toArray⟩)), (5, .own true 36 6 ((out).map rwAv)), (6, .v (.int .i64 ((a + 1) : Nat))), (7, .v (.bool true))] ?_, a + 1, k', q2, out, true, by rw [if_pos rfl]; omega, by omega, by omega, by first | omega | (simp; omega), fun _ => hb1, fun h => by simp at h, rfl, rfl⟩
              simp only [List.forall_mem_cons, List.not_mem_nil, false_imp_iff, implies_true, and_true, hw]
              try simp -dsimp only [Vm.G, List.lookup, Nat.reduceAdd, Nat.reduceBEq, Int.reduceBNe, Int.reduceBEq, Nat.reduceLeDiff, q6, hw]
              repeat' first | exact Fg.refl _ | exact Fg.nil _ _ _ (by decide) | refine And.intro ?_ ?_
            · have d2 : q2 = [] := by simpa using c2
              rw [if_pos d2] at hb1
              try simp -dsimp only [Vm.G, List.lookup, Nat.reduceAdd, Nat.reduceBEq, Int.reduceBNe, Int.reduceBEq, Nat.reduceLeDiff, q6, c2]
              refine kept_intro ⟨r.length, by omega, _, le_mk [(0, .v (.string ⟨q2.toArray⟩)), (5, .own true 36 6 ((out).map rwAv)), (6, .v (.int .i64 ((a + 1) : Nat))), (7, .v (.bool false))] ?_, a + 1, k', q2, out, false, by first | omega | (simp; omega), by omega, by omega, by first | omega | (simp; omega), fun h => by simp at h, fun _ => hb1, rfl, rfl⟩
              simp only [List.forall_mem_cons, List.not_mem_nil, false_imp_iff, implies_true, and_true, hw]
              try simp -dsimp only [Vm.G, List.lookup, Nat.reduceAdd, Nat.reduceBEq, Int.reduceBNe, Int.reduceBEq, Nat.reduceLeDiff, q6, hw]
              repeat' first | exact Fg.refl _ | exact Fg.nil _ _ _ (by decide) | refine And.intro ?_ ?_
      · have c0 : (((a + 1 : Nat) : Int) == 1) = false := by simp only [beq_eq_false_iff_ne]; omega
        rw [if_neg h0, outCsv_row h0] at hb1
        simp -dsimp only [Vm.G, List.lookup, Nat.reduceAdd, Nat.reduceBEq, Int.reduceBNe, Int.reduceBEq, Nat.reduceLeDiff, q6]
        refine call_one (S := cutSpec) rfl _ GaL.rfl ⟨r, by omega, rfl, ?_⟩
        generalize cutN r = q at hb1 hcl hc1l ⊢
        rcases q with ⟨q1, q2, qb⟩
        simp only [strA] at hb1 hcl hc1l ⊢
        simp -dsimp only [Vm.G, List.lookup, Nat.reduceAdd, Nat.reduceBEq, Int.reduceBNe, Int.reduceBEq, Nat.reduceLeDiff, q6, hw]
        simp -dsimp only [Vm.G, List.lookup, Nat.reduceAdd, Nat.reduceBEq, Int.reduceBNe, Int.reduceBEq, Nat.reduceLeDiff, q6, c0]
        refine call_one (S := parseSpec) rfl _ GaL.rfl ⟨q1, by omega, rfl, ?_⟩
        generalize parseP q1 = z at hb1 ⊢
        rcases z with ⟨zr, zb⟩
        simp only [rwAv, rwCells] at hb1 ⊢
        have hbs : out.map rwAv ++ [AV.agg [.v (.int .i64 zr.id), .v (.int .i64 zr.year), .v (.int .i64 zr.kind), .v (.int .i64 zr.fund), .v (.int .i64 zr.obj), .v (.int .i64 zr.amt)]] = (out ++ [zr]).map rwAv := by simp [rwAv, rwCells]
        simp -dsimp only [Vm.G, List.lookup, Nat.reduceAdd, Nat.reduceBEq, Int.reduceBNe, Int.reduceBEq, Nat.reduceLeDiff, q6]
        cases qb with
        | false =>
          simp only [Bool.false_and, Bool.false_eq_true, if_false] at hb1
          simp -dsimp only [Vm.G, List.lookup, Nat.reduceAdd, Nat.reduceBEq, Int.reduceBNe, Int.reduceBEq, Nat.reduceLeDiff, q6]
          refine bs_intro zr36 (by decide) (by decide) rfl rfl (by simp [solid, AV.cells]) ?_
          simp -dsimp only [Vm.G, List.lookup, Nat.reduceAdd, Nat.reduceBEq, Int.reduceBNe, Int.reduceBEq, Nat.reduceLeDiff, q6]
          refine app_sl Tryd.underlying23 (by simp [AV.cells]) (by simp only [List.length_map, List.length_cons, List.length_nil]; omega) ?_
          simp -dsimp only [Vm.G, List.lookup, Nat.reduceAdd, Nat.reduceBEq, Int.reduceBNe, Int.reduceBEq, Nat.reduceLeDiff, q6]
          simp only [Prod.mk.injEq] at hb1
          rcases hb1 with ⟨rfl, rfl, rfl⟩
          have ea : ((a : Nat) : Int) + 1 = ((a + 1 : Nat) : Int) := by simp
          rw [ea] at hq
          exact hq _ (.inr ⟨rfl, rfl⟩)
        | true =>
          have hcl := hcl rfl
          rw [Bool.true_and] at hb1
          simp -dsimp only [Vm.G, List.lookup, Nat.reduceAdd, Nat.reduceBEq, Int.reduceBNe, Int.reduceBEq, Nat.reduceLeDiff, q6]
          cases zb with
          | false =>
            rw [if_neg (by decide)] at hb1
            try simp -dsimp only [Vm.G, List.lookup, Nat.reduceAdd, Nat.reduceBEq, Int.reduceBNe, Int.reduceBEq, Nat.reduceLeDiff, q6]
            refine bs_intro zr36 (by decide) (by decide) rfl rfl (by simp [solid, AV.cells]) ?_
            simp -dsimp only [Vm.G, List.lookup, Nat.reduceAdd, Nat.reduceBEq, Int.reduceBNe, Int.reduceBEq, Nat.reduceLeDiff, q6]
            refine app_sl Tryd.underlying23 (by simp [AV.cells]) (by simp only [List.length_map, List.length_cons, List.length_nil]; omega) ?_
            simp -dsimp only [Vm.G, List.lookup, Nat.reduceAdd, Nat.reduceBEq, Int.reduceBNe, Int.reduceBEq, Nat.reduceLeDiff, q6]
            simp only [Prod.mk.injEq] at hb1
            rcases hb1 with ⟨rfl, rfl, rfl⟩
            have ea : ((a : Nat) : Int) + 1 = ((a + 1 : Nat) : Int) := by simp
            rw [ea] at hq
            exact hq _ (.inr ⟨rfl, rfl⟩)
          | true =>
            rw [if_pos rfl] at hb1
            try simp -dsimp only [Vm.G, List.lookup, Nat.reduceAdd, Nat.reduceBEq, Int.reduceBNe, Int.reduceBEq, Nat.reduceLeDiff, q6]
            refine bs_intro zr36 (by decide) (by decide) rfl rfl (by simp [solid, AV.cells]) ?_
            simp -dsimp only [Vm.G, List.lookup, Nat.reduceAdd, Nat.reduceBEq, Int.reduceBNe, Int.reduceBEq, Nat.reduceLeDiff, q6]
            refine app_sl Tryd.underlying23 (by simp [AV.cells]) (by simp only [List.length_map, List.length_cons, List.length_nil]; omega) ?_
            rw [hbs]
            simp -dsimp only [Vm.G, List.lookup, Nat.reduceAdd, Nat.reduceBEq, Int.reduceBNe, Int.reduceBEq, Nat.reduceLeDiff, q6, str_neq, toList_mk, hem, hem2]
            cases c2 : (q2 == ([] : List UInt8))
            · have d2 : ¬ q2 = [] := by simpa using c2
              rw [if_neg d2] at hb1
              try simp -dsimp only [Vm.G, List.lookup, Nat.reduceAdd, Nat.reduceBEq, Int.reduceBNe, Int.reduceBEq, Nat.reduceLeDiff, q6, c2]
              refine kept_intro ⟨r.length, by omega, _, le_mk [(0, .v (.string ⟨q2.toArray⟩)), (5, .own true 36 6 (((out ++ [zr])).map rwAv)), (6, .v (.int .i64 ((a + 1) : Nat))), (7, .v (.bool true))] ?_, a + 1, k', q2, (out ++ [zr]), true, by rw [if_pos rfl]; omega, by omega, by omega, by first | omega | (simp; omega), fun _ => hb1, fun h => by simp at h, rfl, rfl⟩
              simp only [List.forall_mem_cons, List.not_mem_nil, false_imp_iff, implies_true, and_true, hw]
              try simp -dsimp only [Vm.G, List.lookup, Nat.reduceAdd, Nat.reduceBEq, Int.reduceBNe, Int.reduceBEq, Nat.reduceLeDiff, q6, hw]
              repeat' first | exact Fg.refl _ | exact Fg.nil _ _ _ (by decide) | refine And.intro ?_ ?_
            · have d2 : q2 = [] := by simpa using c2
              rw [if_pos d2] at hb1
              try simp -dsimp only [Vm.G, List.lookup, Nat.reduceAdd, Nat.reduceBEq, Int.reduceBNe, Int.reduceBEq, Nat.reduceLeDiff, q6, c2]
              refine kept_intro ⟨r.length, by omega, _, le_mk [(0, .v (.string ⟨q2.toArray⟩)), (5, .own true 36 6 (((out ++ [zr])).map rwAv)), (6, .v (.int .i64 ((a + 1) : Nat))), (7, .v (.bool false))] ?_, a + 1, k', q2, (out ++ [zr]), false, by first | omega | (simp; omega), by omega, by omega, by first | omega | (simp; omega), fun h => by simp at h, fun _ => hb1, rfl, rfl⟩
              simp only [List.forall_mem_cons, List.not_mem_nil, false_imp_iff, implies_true, and_true, hw]
              try simp -dsimp only [Vm.G, List.lookup, Nat.reduceAdd, Nat.reduceBEq, Int.reduceBNe, Int.reduceBEq, Nat.reduceLeDiff, q6, hw]
              repeat' first | exact Fg.refl _ | exact Fg.nil _ _ _ (by decide) | refine And.intro ?_ ?_
theorem ten_u8 {c : UInt8} : ((c.toNat : Int) != 10) = !(c == 10) := by
  by_cases h : c = 10
  · rw [h]; rfl
  · have h1 : (c == 10) = false := by simpa using h
    rw [h1]
    simp only [Bool.not_false, bne_iff_ne, ne_eq]
    intro e
    exact h (UInt8.toNat_inj.1 (by have : c.toNat = 10 := by omega
                                   rw [this]; rfl))
set_option maxRecDepth 20000 in
set_option maxHeartbeats 4000000 in
theorem does_csvR : Does Tryd.prog 7 (csvSpec csvR) := by
  refine does_of_awp (good_cons does_rrow (good_cons does_rln49 good_nil)) Tryd.func7 rfl (by decide +kernel) (by decide +kernel) ?_
  rintro args h Q ⟨s, hl, rfl, hq⟩
  refine ⟨by simp [Tryd.f7], ?_⟩
  rw [awpFunc_some (by rfl)]
  have hsz := sz_mk s
  have hgt : decide (((s.length : Nat) : Int) > 1048576) = false := decide_eq_false (by omega)
  generalize hX : csvR s = X at hq
  rcases X with ⟨xl, xn, xe⟩
  simp only [strA, iv] at hq ⊢
  simp -dsimp only [Vm.G, List.lookup, Nat.reduceAdd, Nat.reduceBEq, Int.reduceBNe, Int.reduceBEq, Nat.reduceLeDiff, q7, hsz]
  simp -dsimp only [Vm.G, List.lookup, Nat.reduceAdd, Nat.reduceBEq, Int.reduceBNe, Int.reduceBEq, Nat.reduceLeDiff, q7, hgt]
  refine awp_loop (fun m s' h' => ∃ (a k fr : Nat) (out : List Rw), (s.length - fr) + (if a = 0 then 1 else 0) ≤ m ∧ (s.length - fr) + (if a = 0 then 1 else 0) < k ∧ fr ≤ s.length ∧ a ≤ fr ∧ out.length ≤ a ∧ goR k a (s.drop fr) out = (xl, xn, xe) ∧ h' = h ∧ s' = mk [(0, .v (.string ⟨s.toArray⟩)), (5, .own true 42 6 ((out).map rwAv)), (6, .v (.int .i64 (a : Nat))), (7, .v (.int .i64 (fr : Nat)))])
    (s.length + 1) _ (le_mk _ ?_) ⟨0, s.length + 2, 0, [], by simp, by simp, by omega, Nat.le_refl _, by simp, hX, rfl, rfl⟩ ?_
  · simp only [List.forall_mem_cons, List.not_mem_nil, false_imp_iff, implies_true, and_true]
    try simp -dsimp only [Vm.G, List.lookup, Nat.reduceAdd, Nat.reduceBEq, Int.reduceBNe, Int.reduceBEq, Nat.reduceLeDiff, q7]
    repeat' first | exact Fg.refl _ | exact Fg.nil _ _ _ (by decide) | refine And.intro ?_ ?_
  · clear hX hgt
    rintro m s' h' ⟨a, k, fr, out, hm, hk, hfr, ha, hol, hb1, rfl, rfl⟩
    obtain ⟨k', rfl⟩ : ∃ k', k = k' + 1 := ⟨k - 1, by omega⟩
    unfold goR at hb1
    have hdl : (s.drop fr).length = s.length - fr := List.length_drop
    simp -dsimp only [Vm.G, List.lookup, Nat.reduceAdd, Nat.reduceBEq, Int.reduceBNe, Int.reduceBEq, Nat.reduceLeDiff, q7, hsz]
    by_cases hend : s.drop fr = [] ∧ a ≠ 0
    · rw [if_pos hend] at hb1
      have hfe : fr = s.length := by have := congrArg List.length hend.1; rw [hdl] at this; simp at this; omega
      have c1 : decide (((fr : Nat) : Int) < ((s.length : Nat) : Int)) = false := decide_eq_false (by omega)
      have c2 : (((a : Nat) : Int) == 0) = false := by simp only [beq_eq_false_iff_ne]; have := hend.2; omega
      simp only [Prod.mk.injEq] at hb1
      rcases hb1 with ⟨rfl, rfl, rfl⟩
      simp -dsimp only [Vm.G, List.lookup, Nat.reduceAdd, Nat.reduceBEq, Int.reduceBNe, Int.reduceBEq, Nat.reduceLeDiff, q7, c1]
      simp -dsimp only [Vm.G, List.lookup, Nat.reduceAdd, Nat.reduceBEq, Int.reduceBNe, Int.reduceBEq, Nat.reduceLeDiff, q7, c2]
      exact hq _ (.inl rfl)
    · rw [if_neg hend] at hb1
      by_cases hlt : fr < s.length
      · have c1 : decide (((fr : Nat) : Int) < ((s.length : Nat) : Int)) = true := decide_eq_true (by omega)
        simp -dsimp only [Vm.G, List.lookup, Nat.reduceAdd, Nat.reduceBEq, Int.reduceBNe, Int.reduceBEq, Nat.reduceLeDiff, q7, c1]
        refine awp_loop (fun m2 s2 h2 => ∃ e : Nat, e + m2 = s.length ∧ fr ≤ e ∧ (∀ (j : Nat) (c : UInt8), fr ≤ j → j < e → s[j]? = some c → c ≠ 10) ∧ h2 = h' ∧ s2 = mk [(0, .v (.string ⟨s.toArray⟩)), (5, .own true 42 6 (out.map rwAv)), (6, .v (.int .i64 (a : Nat))), (7, .v (.int .i64 (fr : Nat))), (8, .v (.int .i64 (e : Nat)))])
          (s.length - fr) _ (le_mk _ ?_) ⟨fr, by omega, Nat.le_refl _, fun j c h1 h2 => by omega, rfl, rfl⟩ ?_
        · simp only [List.forall_mem_cons, List.not_mem_nil, false_imp_iff, implies_true, and_true]
          try simp -dsimp only [Vm.G, List.lookup, Nat.reduceAdd, Nat.reduceBEq, Int.reduceBNe, Int.reduceBEq, Nat.reduceLeDiff, q7]
          repeat' first | exact Fg.refl _ | exact Fg.nil _ _ _ (by decide) | refine And.intro ?_ ?_
        · rintro m2 s2 h2 ⟨e, he, hfe, hno, rfl, rfl⟩
          simp -dsimp only [Vm.G, List.lookup, Nat.reduceAdd, Nat.reduceBEq, Int.reduceBNe, Int.reduceBEq, Nat.reduceLeDiff, q7, hsz]
          have hw : IntKind.i64.wrap (((a : Nat) : Int) + 1) = ((a + 1 : Nat) : Int) := by rw [wrap_i64 (by omega) (by omega)]; simp
          have hw1 : IntKind.i64.wrap (((e : Nat) : Int) + 1) = ((e + 1 : Nat) : Int) := by rw [wrap_i64 (by omega) (by omega)]; simp
          have hpre : ∀ (k : Nat), k ≤ e → ∀ c ∈ (s.take k).drop fr, c ≠ 10 := fun k hk c hc => by
            obtain ⟨j, hj, rfl⟩ := List.getElem_of_mem hc
            rw [List.length_drop, List.length_take] at hj
            refine hno (fr + j) _ (by omega) (by omega) ?_
            rw [List.getElem_drop, List.getElem_take, List.getElem?_eq_getElem (by omega)]
          by_cases hes : e < s.length
          · have d1 : decide (((e : Nat) : Int) < ((s.length : Nat) : Int)) = true := decide_eq_true (by omega)
            have hgd : s[((e : Nat) : Int).toNat]? = some s[e] := by rw [Int.toNat_natCast, List.getElem?_eq_getElem hes]
            have hgd2 : s[e]? = some s[e] := List.getElem?_eq_getElem hes
            have hspl : s.drop fr = (s.take e).drop fr ++ s[e] :: s.drop (e + 1) := by
              have h1 : s = s.take e ++ s[e] :: s.drop (e + 1) := by rw [← List.drop_eq_getElem_cons hes, List.take_append_drop]
              conv => lhs; rw [h1]
              rw [List.drop_append_of_le_length (by rw [List.length_take]; omega)]
            have htk1 : (s.take (e + 1)).drop fr = (s.take e).drop fr ++ [s[e]] := by
              rw [List.take_add_one, hgd2, List.drop_append_of_le_length (by rw [List.length_take]; omega)]; rfl
            have hpe := hpre e (Nat.le_refl _)
            have hwl : ((s.take e).drop fr).length ≤ 1000000 := by rw [List.length_drop, List.length_take]; omega
            have hce : ∃ c, s[e] = c := ⟨_, rfl⟩
            rcases hce with ⟨c, hce⟩
            have hwe : ∃ w, (s.take e).drop fr = w := ⟨_, rfl⟩
            rcases hwe with ⟨w, hwe⟩
            rw [hce] at hgd hgd2 hspl htk1
            rw [hwe] at hspl htk1 hpe hwl
            clear hce hwe hpre
            have hten := ten_u8 (c := c)
            simp -dsimp only [Vm.G, List.lookup, Nat.reduceAdd, Nat.reduceBEq, Int.reduceBNe, Int.reduceBEq, Nat.reduceLeDiff, q7, d1]
            refine at_str Tryd.underlying9 (by omega) hgd ?_
            have hdc3 := (Bool.eq_false_or_eq_true (c == 10)).symm
            rcases hdc3 with c3 | c3
            · have hc10 : c ≠ 10 := by simpa using c3
              have c4 : ((c.toNat : Int) != 10) = true := by rw [hten, c3]; rfl
              simp -dsimp only [Vm.G, List.lookup, Nat.reduceAdd, Nat.reduceBEq, Int.reduceBNe, Int.reduceBEq, Nat.reduceLeDiff, q7, c4]
              refine kept_intro ⟨s.length - (e + 1), by omega, _, le_mk [(0, .v (.string ⟨s.toArray⟩)), (5, .own true 42 6 (out.map rwAv)), (6, .v (.int .i64 (a : Nat))), (7, .v (.int .i64 (fr : Nat))), (8, .v (.int .i64 ((e + 1) : Nat)))] ?_, e + 1, by omega, by omega, fun j c' h1 h2 h3 => ?_, rfl, rfl⟩
              · simp only [List.forall_mem_cons, List.not_mem_nil, false_imp_iff, implies_true, and_true, hw1]
                try simp -dsimp only [Vm.G, List.lookup, Nat.reduceAdd, Nat.reduceBEq, Int.reduceBNe, Int.reduceBEq, Nat.reduceLeDiff, q7, hw1]
                repeat' first | exact Fg.refl _ | exact Fg.nil _ _ _ (by decide) | refine And.intro ?_ ?_
              · by_cases hje : j = e
                · rw [hje, hgd2] at h3; cases h3; exact hc10
                · exact hno j c' h1 (by omega) h3
            · have hc10 : c = 10 := by simpa using c3
              have c4 : ((c.toNat : Int) != 10) = false := by rw [hten, c3]; rfl
              have c5 : (((e : Nat) : Int) == ((s.length : Nat) : Int)) = false := by simp only [beq_eq_false_iff_ne]; omega
              rw [hc10] at hspl htk1
              have hcut : cutN (s.drop fr) = (w, s.drop (e + 1), true) := by rw [hspl]; exact cutN_line _ _ hpe
              rw [hcut] at hb1
              simp only [Bool.true_eq_false, if_false] at hb1
              simp -dsimp only [Vm.G, List.lookup, Nat.reduceAdd, Nat.reduceBEq, Int.reduceBNe, Int.reduceBEq, Nat.reduceLeDiff, q7, c4, hw]
              simp -dsimp only [Vm.G, List.lookup, Nat.reduceAdd, Nat.reduceBEq, Int.reduceBNe, Int.reduceBEq, Nat.reduceLeDiff, q7, hsz, c5]
              simp -dsimp only [Vm.G, List.lookup, Nat.reduceAdd, Nat.reduceBEq, Int.reduceBNe, Int.reduceBEq, Nat.reduceLeDiff, q7, hw1]
              refine mid_str (l := fr) (m := e + 1) Tryd.underlying9 rfl (fun _ => rfl) (by omega) (by omega) ?_
              simp only [htk1]
              clear hcut hspl htk1 hpe hno hgd hgd2 hten
              by_cases h0 : a = 0
              · have c0 : (((a + 1 : Nat) : Int) == 1) = true := by rw [h0]; rfl
                have c7 : decide (((a + 1 : Nat) : Int) > 1) = false := decide_eq_false (by omega)
                rw [if_pos h0] at hb1
                simp -dsimp only [Vm.G, List.lookup, Nat.reduceAdd, Nat.reduceBEq, Int.reduceBNe, Int.reduceBEq, Nat.reduceLeDiff, q7, c0]
                have hhd : ((w ++ [10]) == ([105, 100, 44, 121, 101, 97, 114, 44, 107, 105, 110, 100, 44, 102, 117, 110, 100, 44, 111, 98, 106, 101, 99, 116, 44, 97, 109, 111, 117, 110, 116, 10] : List UInt8)) = (w == headB) := by
                  show ((w ++ [10]) == headB ++ [10]) = _
                  by_cases hh : w = headB
                  · rw [hh]; simp
                  · have h1 : (w == headB) = false := by simpa using hh
                    rw [h1]
                    simp only [beq_eq_false_iff_ne, ne_eq]
                    intro e
                    exact hh (List.append_cancel_right e)
                simp -dsimp only [Vm.G, List.lookup, Nat.reduceAdd, Nat.reduceBEq, Int.reduceBNe, Int.reduceBEq, Nat.reduceLeDiff, q7, str_neq, toList_mk]
                have hdc6 := (Bool.eq_false_or_eq_true (w == headB)).symm
                rcases hdc6 with c6 | c6
                · have d6 : ¬ w = headB := by simpa using c6
                  rw [if_neg d6] at hb1
                  simp only [Prod.mk.injEq] at hb1
                  rcases hb1 with ⟨rfl, rfl, rfl⟩
                  simp -dsimp only [Vm.G, List.lookup, Nat.reduceAdd, Nat.reduceBEq, Int.reduceBNe, Int.reduceBEq, Nat.reduceLeDiff, q7, hhd, c6]
                  exact hq _ (.inr ⟨rfl, rfl⟩)
                · have d6 : w = headB := by simpa using c6
                  rw [if_pos d6] at hb1
                  simp -dsimp only [Vm.G, List.lookup, Nat.reduceAdd, Nat.reduceBEq, Int.reduceBNe, Int.reduceBEq, Nat.reduceLeDiff, q7, hhd, c6, c7, hw1]
                  refine kept_intro ⟨s.length - fr, by rw [if_pos h0] at hm; omega, _, le_mk [(0, .v (.string ⟨s.toArray⟩)), (5, .own true 42 6 ((out).map rwAv)), (6, .v (.int .i64 ((a + 1) : Nat))), (7, .v (.int .i64 ((e + 1) : Nat)))] ?_, a + 1, k', e + 1, out, by rw [if_neg (by omega)]; omega, by rw [if_neg (by omega)]; rw [if_pos h0] at hk; omega, by omega, by omega, by omega, hb1, rfl, rfl⟩
                  simp only [List.forall_mem_cons, List.not_mem_nil, false_imp_iff, implies_true, and_true, hw1]
                  try simp -dsimp only [Vm.G, List.lookup, Nat.reduceAdd, Nat.reduceBEq, Int.reduceBNe, Int.reduceBEq, Nat.reduceLeDiff, q7, hw1]
                  repeat' first | exact Fg.refl _ | exact Fg.nil _ _ _ (by decide) | refine And.intro ?_ ?_
              · have c0 : (((a + 1 : Nat) : Int) == 1) = false := by simp only [beq_eq_false_iff_ne]; omega
                have c7 : decide (((a + 1 : Nat) : Int) > 1) = true := decide_eq_true (by omega)
                rw [if_neg h0] at hb1
                rw [if_neg h0] at hm hk
                have hrok := rowR_ok (w ++ [10])
                simp -dsimp only [Vm.G, List.lookup, Nat.reduceAdd, Nat.reduceBEq, Int.reduceBNe, Int.reduceBEq, Nat.reduceLeDiff, q7, c0, c7]
                refine call_one (S := rrowSpec) rfl _ GaL.rfl ⟨w ++ [10], by simp; omega, rfl, ?_⟩
                have hze : ∃ z, z = rowR (w ++ [10]) := ⟨_, rfl⟩
                rcases hze with ⟨z, hz⟩
                rw [← hz] at hb1 hrok ⊢
                simp only [rwAv, rwCells]
                simp -dsimp only [Vm.G, List.lookup, Nat.reduceAdd, Nat.reduceBEq, Int.reduceBNe, Int.reduceBEq, Nat.reduceLeDiff, q7]
                refine call_one (S := rln49Spec) rfl _ GaL.rfl ⟨z, hrok, rfl, ?_⟩
                simp only [strA]
                have hln : ((lineR z ++ [10]) == (w ++ [10])) = (lineR z == w) := by
                  by_cases hh : lineR z = w
                  · rw [hh]; simp
                  · have h1 : (lineR z == w) = false := by simpa using hh
                    rw [h1]
                    simp only [beq_eq_false_iff_ne, ne_eq]
                    intro e
                    exact hh (List.append_cancel_right e)
                simp -dsimp only [Vm.G, List.lookup, Nat.reduceAdd, Nat.reduceBEq, Int.reduceBNe, Int.reduceBEq, Nat.reduceLeDiff, q7, str_neq, toList_mk]
                have hdc6 := (Bool.eq_false_or_eq_true (lineR z == w)).symm
                rcases hdc6 with c6 | c6
                · have d6 : ¬ lineR z = w := by simpa using c6
                  rw [if_neg d6] at hb1
                  simp only [Prod.mk.injEq] at hb1
                  rcases hb1 with ⟨rfl, rfl, rfl⟩
                  have ea : ((a : Nat) : Int) + 1 = ((a + 1 : Nat) : Int) := by simp
                  rw [ea] at hq
                  simp -dsimp only [Vm.G, List.lookup, Nat.reduceAdd, Nat.reduceBEq, Int.reduceBNe, Int.reduceBEq, Nat.reduceLeDiff, q7, hln, c6]
                  exact hq _ (.inr ⟨rfl, rfl⟩)
                · have d6 : lineR z = w := by simpa using c6
                  rw [if_pos d6] at hb1
                  have hbs : out.map rwAv ++ [AV.agg [.v (.int .i64 z.id), .v (.int .i64 z.year), .v (.int .i64 z.kind), .v (.int .i64 z.fund), .v (.int .i64 z.obj), .v (.int .i64 z.amt)]] = (out ++ [z]).map rwAv := by simp [rwAv, rwCells]
                  simp -dsimp only [Vm.G, List.lookup, Nat.reduceAdd, Nat.reduceBEq, Int.reduceBNe, Int.reduceBEq, Nat.reduceLeDiff, q7, hln, c6]
                  refine bs_intro zr42 (by decide) (by decide) rfl rfl (by simp [solid, AV.cells]) ?_
                  simp -dsimp only [Vm.G, List.lookup, Nat.reduceAdd, Nat.reduceBEq, Int.reduceBNe, Int.reduceBEq, Nat.reduceLeDiff, q7]
                  refine app_sl Tryd.underlying27 (by simp [AV.cells]) (by simp only [List.length_map, List.length_cons, List.length_nil]; omega) ?_
                  rw [hbs]
                  simp -dsimp only [Vm.G, List.lookup, Nat.reduceAdd, Nat.reduceBEq, Int.reduceBNe, Int.reduceBEq, Nat.reduceLeDiff, q7, hw1]
                  refine kept_intro ⟨s.length - (e + 1), by omega, _, le_mk [(0, .v (.string ⟨s.toArray⟩)), (5, .own true 42 6 (((out ++ [z])).map rwAv)), (6, .v (.int .i64 ((a + 1) : Nat))), (7, .v (.int .i64 ((e + 1) : Nat)))] ?_, a + 1, k', e + 1, out ++ [z], by rw [if_neg (by omega)]; omega, by rw [if_neg (by omega)]; omega, by omega, by omega, by simp; omega, hb1, rfl, rfl⟩
                  simp only [List.forall_mem_cons, List.not_mem_nil, false_imp_iff, implies_true, and_true, hw1]
                  try simp -dsimp only [Vm.G, List.lookup, Nat.reduceAdd, Nat.reduceBEq, Int.reduceBNe, Int.reduceBEq, Nat.reduceLeDiff, q7, hw1]
                  repeat' first | exact Fg.refl _ | exact Fg.nil _ _ _ (by decide) | refine And.intro ?_ ?_
          · have hee : e = s.length := by omega
            have d1 : decide (((e : Nat) : Int) < ((s.length : Nat) : Int)) = false := decide_eq_false (by omega)
            have c5 : (((e : Nat) : Int) == ((s.length : Nat) : Int)) = true := by rw [hee]; simp
            have hno2 : 10 ∉ s.drop fr := fun h => by
              have := hpre e (Nat.le_refl _) 10
              rw [hee, List.take_length] at this
              exact this h rfl
            rw [cutN_none hno2] at hb1
            simp only [if_true] at hb1
            simp only [Prod.mk.injEq] at hb1
            rcases hb1 with ⟨rfl, rfl, rfl⟩
            have ea : ((a : Nat) : Int) + 1 = ((a + 1 : Nat) : Int) := by simp
            rw [ea] at hq
            simp -dsimp only [Vm.G, List.lookup, Nat.reduceAdd, Nat.reduceBEq, Int.reduceBNe, Int.reduceBEq, Nat.reduceLeDiff, q7, d1, hw]
            simp -dsimp only [Vm.G, List.lookup, Nat.reduceAdd, Nat.reduceBEq, Int.reduceBNe, Int.reduceBEq, Nat.reduceLeDiff, q7, hsz, c5]
            exact hq _ (.inr ⟨rfl, rfl⟩)
      · have c1 : decide (((fr : Nat) : Int) < ((s.length : Nat) : Int)) = false := decide_eq_false (by omega)
        have ha0 : a = 0 := Decidable.byContradiction fun h => hend ⟨List.drop_of_length_le (by omega), h⟩
        have c2 : (((a : Nat) : Int) == 0) = true := by rw [ha0]; rfl
        simp -dsimp only [Vm.G, List.lookup, Nat.reduceAdd, Nat.reduceBEq, Int.reduceBNe, Int.reduceBEq, Nat.reduceLeDiff, q7, c1]
        simp -dsimp only [Vm.G, List.lookup, Nat.reduceAdd, Nat.reduceBEq, Int.reduceBNe, Int.reduceBEq, Nat.reduceLeDiff, q7, c2]
        refine awp_loop (fun m2 s2 h2 => ∃ e : Nat, e + m2 = s.length ∧ fr ≤ e ∧ (∀ (j : Nat) (c : UInt8), fr ≤ j → j < e → s[j]? = some c → c ≠ 10) ∧ h2 = h' ∧ s2 = mk [(0, .v (.string ⟨s.toArray⟩)), (5, .own true 42 6 (out.map rwAv)), (6, .v (.int .i64 (a : Nat))), (7, .v (.int .i64 (fr : Nat))), (8, .v (.int .i64 (e : Nat)))])
          (s.length - fr) _ (le_mk _ ?_) ⟨fr, by omega, Nat.le_refl _, fun j c h1 h2 => by omega, rfl, rfl⟩ ?_
        · simp only [List.forall_mem_cons, List.not_mem_nil, false_imp_iff, implies_true, and_true]
          try simp -dsimp only [Vm.G, List.lookup, Nat.reduceAdd, Nat.reduceBEq, Int.reduceBNe, Int.reduceBEq, Nat.reduceLeDiff, q7]
          repeat' first | exact Fg.refl _ | exact Fg.nil _ _ _ (by decide) | refine And.intro ?_ ?_
        · rintro m2 s2 h2 ⟨e, he, hfe, hno, rfl, rfl⟩
          simp -dsimp only [Vm.G, List.lookup, Nat.reduceAdd, Nat.reduceBEq, Int.reduceBNe, Int.reduceBEq, Nat.reduceLeDiff, q7, hsz]
          have hw : IntKind.i64.wrap (((a : Nat) : Int) + 1) = ((a + 1 : Nat) : Int) := by rw [wrap_i64 (by omega) (by omega)]; simp
          have hw1 : IntKind.i64.wrap (((e : Nat) : Int) + 1) = ((e + 1 : Nat) : Int) := by rw [wrap_i64 (by omega) (by omega)]; simp
          have hpre : ∀ (k : Nat), k ≤ e → ∀ c ∈ (s.take k).drop fr, c ≠ 10 := fun k hk c hc => by
            obtain ⟨j, hj, rfl⟩ := List.getElem_of_mem hc
            rw [List.length_drop, List.length_take] at hj
            refine hno (fr + j) _ (by omega) (by omega) ?_
            rw [List.getElem_drop, List.getElem_take, List.getElem?_eq_getElem (by omega)]
          by_cases hes : e < s.length
          · have d1 : decide (((e : Nat) : Int) < ((s.length : Nat) : Int)) = true := decide_eq_true (by omega)
            have hgd : s[((e : Nat) : Int).toNat]? = some s[e] := by rw [Int.toNat_natCast, List.getElem?_eq_getElem hes]
            have hgd2 : s[e]? = some s[e] := List.getElem?_eq_getElem hes
            have hspl : s.drop fr = (s.take e).drop fr ++ s[e] :: s.drop (e + 1) := by
              have h1 : s = s.take e ++ s[e] :: s.drop (e + 1) := by rw [← List.drop_eq_getElem_cons hes, List.take_append_drop]
              conv => lhs; rw [h1]
              rw [List.drop_append_of_le_length (by rw [List.length_take]; omega)]
            have htk1 : (s.take (e + 1)).drop fr = (s.take e).drop fr ++ [s[e]] := by
              rw [List.take_add_one, hgd2, List.drop_append_of_le_length (by rw [List.length_take]; omega)]; rfl
            have hpe := hpre e (Nat.le_refl _)
            have hwl : ((s.take e).drop fr).length ≤ 1000000 := by rw [List.length_drop, List.length_take]; omega
            have hce : ∃ c, s[e] = c := ⟨_, rfl⟩
            rcases hce with ⟨c, hce⟩
            have hwe : ∃ w, (s.take e).drop fr = w := ⟨_, rfl⟩
            rcases hwe with ⟨w, hwe⟩
            rw [hce] at hgd hgd2 hspl htk1
            rw [hwe] at hspl htk1 hpe hwl
            clear hce hwe hpre
            have hten := ten_u8 (c := c)
            simp -dsimp only [Vm.G, List.lookup, Nat.reduceAdd, Nat.reduceBEq, Int.reduceBNe, Int.reduceBEq, Nat.reduceLeDiff, q7, d1]
            refine at_str Tryd.underlying9 (by omega) hgd ?_
            have hdc3 := (Bool.eq_false_or_eq_true (c == 10)).symm
            rcases hdc3 with c3 | c3
            · have hc10 : c ≠ 10 := by simpa using c3
              have c4 : ((c.toNat : Int) != 10) = true := by rw [hten, c3]; rfl
              simp -dsimp only [Vm.G, List.lookup, Nat.reduceAdd, Nat.reduceBEq, Int.reduceBNe, Int.reduceBEq, Nat.reduceLeDiff, q7, c4]
              refine kept_intro ⟨s.length - (e + 1), by omega, _, le_mk [(0, .v (.string ⟨s.toArray⟩)), (5, .own true 42 6 (out.map rwAv)), (6, .v (.int .i64 (a : Nat))), (7, .v (.int .i64 (fr : Nat))), (8, .v (.int .i64 ((e + 1) : Nat)))] ?_, e + 1, by omega, by omega, fun j c' h1 h2 h3 => ?_, rfl, rfl⟩
              · simp only [List.forall_mem_cons, List.not_mem_nil, false_imp_iff, implies_true, and_true, hw1]
                try simp -dsimp only [Vm.G, List.lookup, Nat.reduceAdd, Nat.reduceBEq, Int.reduceBNe, Int.reduceBEq, Nat.reduceLeDiff, q7, hw1]
                repeat' first | exact Fg.refl _ | exact Fg.nil _ _ _ (by decide) | refine And.intro ?_ ?_
              · by_cases hje : j = e
                · rw [hje, hgd2] at h3; cases h3; exact hc10
                · exact hno j c' h1 (by omega) h3
            · have hc10 : c = 10 := by simpa using c3
              have c4 : ((c.toNat : Int) != 10) = false := by rw [hten, c3]; rfl
              have c5 : (((e : Nat) : Int) == ((s.length : Nat) : Int)) = false := by simp only [beq_eq_false_iff_ne]; omega
              rw [hc10] at hspl htk1
              have hcut : cutN (s.drop fr) = (w, s.drop (e + 1), true) := by rw [hspl]; exact cutN_line _ _ hpe
              rw [hcut] at hb1
              simp only [Bool.true_eq_false, if_false] at hb1
              simp -dsimp only [Vm.G, List.lookup, Nat.reduceAdd, Nat.reduceBEq, Int.reduceBNe, Int.reduceBEq, Nat.reduceLeDiff, q7, c4, hw]
              simp -dsimp only [Vm.G, List.lookup, Nat.reduceAdd, Nat.reduceBEq, Int.reduceBNe, Int.reduceBEq, Nat.reduceLeDiff, q7, hsz, c5]
              simp -dsimp only [Vm.G, List.lookup, Nat.reduceAdd, Nat.reduceBEq, Int.reduceBNe, Int.reduceBEq, Nat.reduceLeDiff, q7, hw1]
              refine mid_str (l := fr) (m := e + 1) Tryd.underlying9 rfl (fun _ => rfl) (by omega) (by omega) ?_
              simp only [htk1]
              clear hcut hspl htk1 hpe hno hgd hgd2 hten
              by_cases h0 : a = 0
              · have c0 : (((a + 1 : Nat) : Int) == 1) = true := by rw [h0]; rfl
                have c7 : decide (((a + 1 : Nat) : Int) > 1) = false := decide_eq_false (by omega)
                rw [if_pos h0] at hb1
                simp -dsimp only [Vm.G, List.lookup, Nat.reduceAdd, Nat.reduceBEq, Int.reduceBNe, Int.reduceBEq, Nat.reduceLeDiff, q7, c0]
                have hhd : ((w ++ [10]) == ([105, 100, 44, 121, 101, 97, 114, 44, 107, 105, 110, 100, 44, 102, 117, 110, 100, 44, 111, 98, 106, 101, 99, 116, 44, 97, 109, 111, 117, 110, 116, 10] : List UInt8)) = (w == headB) := by
                  show ((w ++ [10]) == headB ++ [10]) = _
                  by_cases hh : w = headB
                  · rw [hh]; simp
                  · have h1 : (w == headB) = false := by simpa using hh
                    rw [h1]
                    simp only [beq_eq_false_iff_ne, ne_eq]
                    intro e
                    exact hh (List.append_cancel_right e)
                simp -dsimp only [Vm.G, List.lookup, Nat.reduceAdd, Nat.reduceBEq, Int.reduceBNe, Int.reduceBEq, Nat.reduceLeDiff, q7, str_neq, toList_mk]
                have hdc6 := (Bool.eq_false_or_eq_true (w == headB)).symm
                rcases hdc6 with c6 | c6
                · have d6 : ¬ w = headB := by simpa using c6
                  rw [if_neg d6] at hb1
                  simp only [Prod.mk.injEq] at hb1
                  rcases hb1 with ⟨rfl, rfl, rfl⟩
                  simp -dsimp only [Vm.G, List.lookup, Nat.reduceAdd, Nat.reduceBEq, Int.reduceBNe, Int.reduceBEq, Nat.reduceLeDiff, q7, hhd, c6]
                  exact hq _ (.inr ⟨rfl, rfl⟩)
                · have d6 : w = headB := by simpa using c6
                  rw [if_pos d6] at hb1
                  simp -dsimp only [Vm.G, List.lookup, Nat.reduceAdd, Nat.reduceBEq, Int.reduceBNe, Int.reduceBEq, Nat.reduceLeDiff, q7, hhd, c6, c7, hw1]
                  refine kept_intro ⟨s.length - fr, by rw [if_pos h0] at hm; omega, _, le_mk [(0, .v (.string ⟨s.toArray⟩)), (5, .own true 42 6 ((out).map rwAv)), (6, .v (.int .i64 ((a + 1) : Nat))), (7, .v (.int .i64 ((e + 1) : Nat)))] ?_, a + 1, k', e + 1, out, by rw [if_neg (by omega)]; omega, by rw [if_neg (by omega)]; rw [if_pos h0] at hk; omega, by omega, by omega, by omega, hb1, rfl, rfl⟩
                  simp only [List.forall_mem_cons, List.not_mem_nil, false_imp_iff, implies_true, and_true, hw1]
                  try simp -dsimp only [Vm.G, List.lookup, Nat.reduceAdd, Nat.reduceBEq, Int.reduceBNe, Int.reduceBEq, Nat.reduceLeDiff, q7, hw1]
                  repeat' first | exact Fg.refl _ | exact Fg.nil _ _ _ (by decide) | refine And.intro ?_ ?_
              · have c0 : (((a + 1 : Nat) : Int) == 1) = false := by simp only [beq_eq_false_iff_ne]; omega
                have c7 : decide (((a + 1 : Nat) : Int) > 1) = true := decide_eq_true (by omega)
                rw [if_neg h0] at hb1
                rw [if_neg h0] at hm hk
                have hrok := rowR_ok (w ++ [10])
                simp -dsimp only [Vm.G, List.lookup, Nat.reduceAdd, Nat.reduceBEq, Int.reduceBNe, Int.reduceBEq, Nat.reduceLeDiff, q7, c0, c7]
                refine call_one (S := rrowSpec) rfl _ GaL.rfl ⟨w ++ [10], by simp; omega, rfl, ?_⟩
                have hze : ∃ z, z = rowR (w ++ [10]) := ⟨_, rfl⟩
                rcases hze with ⟨z, hz⟩
                rw [← hz] at hb1 hrok ⊢
                simp only [rwAv, rwCells]
                simp -dsimp only [Vm.G, List.lookup, Nat.reduceAdd, Nat.reduceBEq, Int.reduceBNe, Int.reduceBEq, Nat.reduceLeDiff, q7]
                refine call_one (S := rln49Spec) rfl _ GaL.rfl ⟨z, hrok, rfl, ?_⟩
                simp only [strA]
                have hln : ((lineR z ++ [10]) == (w ++ [10])) = (lineR z == w) := by
                  by_cases hh : lineR z = w
                  · rw [hh]; simp
                  · have h1 : (lineR z == w) = false := by simpa using hh
                    rw [h1]
                    simp only [beq_eq_false_iff_ne, ne_eq]
                    intro e
                    exact hh (List.append_cancel_right e)
                simp -dsimp only [Vm.G, List.lookup, Nat.reduceAdd, Nat.reduceBEq, Int.reduceBNe, Int.reduceBEq, Nat.reduceLeDiff, q7, str_neq, toList_mk]
                have hdc6 := (Bool.eq_false_or_eq_true (lineR z == w)).symm
                rcases hdc6 with c6 | c6
                · have d6 : ¬ lineR z = w := by simpa using c6
                  rw [if_neg d6] at hb1
                  simp only [Prod.mk.injEq] at hb1
                  rcases hb1 with ⟨rfl, rfl, rfl⟩
                  have ea : ((a : Nat) : Int) + 1 = ((a + 1 : Nat) : Int) := by simp
                  rw [ea] at hq
                  simp -dsimp only [Vm.G, List.lookup, Nat.reduceAdd, Nat.reduceBEq, Int.reduceBNe, Int.reduceBEq, Nat.reduceLeDiff, q7, hln, c6]
                  exact hq _ (.inr ⟨rfl, rfl⟩)
                · have d6 : lineR z = w := by simpa using c6
                  rw [if_pos d6] at hb1
                  have hbs : out.map rwAv ++ [AV.agg [.v (.int .i64 z.id), .v (.int .i64 z.year), .v (.int .i64 z.kind), .v (.int .i64 z.fund), .v (.int .i64 z.obj), .v (.int .i64 z.amt)]] = (out ++ [z]).map rwAv := by simp [rwAv, rwCells]
                  simp -dsimp only [Vm.G, List.lookup, Nat.reduceAdd, Nat.reduceBEq, Int.reduceBNe, Int.reduceBEq, Nat.reduceLeDiff, q7, hln, c6]
                  refine bs_intro zr42 (by decide) (by decide) rfl rfl (by simp [solid, AV.cells]) ?_
                  simp -dsimp only [Vm.G, List.lookup, Nat.reduceAdd, Nat.reduceBEq, Int.reduceBNe, Int.reduceBEq, Nat.reduceLeDiff, q7]
                  refine app_sl Tryd.underlying27 (by simp [AV.cells]) (by simp only [List.length_map, List.length_cons, List.length_nil]; omega) ?_
                  rw [hbs]
                  simp -dsimp only [Vm.G, List.lookup, Nat.reduceAdd, Nat.reduceBEq, Int.reduceBNe, Int.reduceBEq, Nat.reduceLeDiff, q7, hw1]
                  refine kept_intro ⟨s.length - (e + 1), by omega, _, le_mk [(0, .v (.string ⟨s.toArray⟩)), (5, .own true 42 6 (((out ++ [z])).map rwAv)), (6, .v (.int .i64 ((a + 1) : Nat))), (7, .v (.int .i64 ((e + 1) : Nat)))] ?_, a + 1, k', e + 1, out ++ [z], by rw [if_neg (by omega)]; omega, by rw [if_neg (by omega)]; omega, by omega, by omega, by simp; omega, hb1, rfl, rfl⟩
                  simp only [List.forall_mem_cons, List.not_mem_nil, false_imp_iff, implies_true, and_true, hw1]
                  try simp -dsimp only [Vm.G, List.lookup, Nat.reduceAdd, Nat.reduceBEq, Int.reduceBNe, Int.reduceBEq, Nat.reduceLeDiff, q7, hw1]
                  repeat' first | exact Fg.refl _ | exact Fg.nil _ _ _ (by decide) | refine And.intro ?_ ?_
          · have hee : e = s.length := by omega
            have d1 : decide (((e : Nat) : Int) < ((s.length : Nat) : Int)) = false := decide_eq_false (by omega)
            have c5 : (((e : Nat) : Int) == ((s.length : Nat) : Int)) = true := by rw [hee]; simp
            have hno2 : 10 ∉ s.drop fr := fun h => by
              have := hpre e (Nat.le_refl _) 10
              rw [hee, List.take_length] at this
              exact this h rfl
            rw [cutN_none hno2] at hb1
            simp only [if_true] at hb1
            simp only [Prod.mk.injEq] at hb1
            rcases hb1 with ⟨rfl, rfl, rfl⟩
            have ea : ((a : Nat) : Int) + 1 = ((a + 1 : Nat) : Int) := by simp
            rw [ea] at hq
            simp -dsimp only [Vm.G, List.lookup, Nat.reduceAdd, Nat.reduceBEq, Int.reduceBNe, Int.reduceBEq, Nat.reduceLeDiff, q7, d1, hw]
            simp -dsimp only [Vm.G, List.lookup, Nat.reduceAdd, Nat.reduceBEq, Int.reduceBNe, Int.reduceBEq, Nat.reduceLeDiff, q7, hsz, c5]
            exact hq _ (.inr ⟨rfl, rfl⟩)
end Go.Proofs.Lx
/- Rows written as lines: by the kit's own walk. -/
set_option linter.unusedSimpArgs false
set_option linter.unusedVariables false
namespace Go.Proofs.Lx
open Go.Vm Go.RowKit
def prSpec : Vm.Spec := fun args h Q => ∃ l : List Rw, l.length ≤ 1000000 ∧ (∀ r ∈ l, r.ok) ∧ (printP l).length ≤ 1000000 ∧ args = [.sl 6 (l.map rwAv)] ∧ Q (strA (printP l)) h
def rwV (r : Rw) : Array Value := #[.int .i64 r.id, .int .i64 r.year, .int .i64 r.kind, .int .i64 r.fund, .int .i64 r.obj, .int .i64 r.amt]
theorem line_calls (r : Rw) (hr : r.ok) (w : World) : Calls Tryd.prog 17 #[.agg #[.int .i64 r.id, .int .i64 r.year, .int .i64 r.kind, .int .i64 r.fund, .int .i64 r.obj, .int .i64 r.amt]] w fun e w' => e = .returned (.string ⟨(lineR r).toArray⟩) ∧ Below w.heap.size w w' := by
  refine (does_calm does_line (args := [rwAv r]) (Q := fun q => q = strA (lineR r)) ⟨r, hr, rfl, rfl, rfl⟩ rfl (fun j u hu => ?_)).mono ?_
  · rcases j with _ | j
    · simp at hu; subst hu
      refine .agg rfl (fun j hj => ?_) (fun j u hu => ?_)
      · have hj : j < 6 := hj
        match j, hj with
        | 0, _ => rfl
        | 1, _ => rfl
        | 2, _ => rfl
        | 3, _ => rfl
        | 4, _ => rfl
        | 5, _ => rfl
      · match j, hu with
        | 0, hu => cases hu; exact .v rfl
        | 1, hu => cases hu; exact .v rfl
        | 2, hu => cases hu; exact .v rfl
        | 3, hu => cases hu; exact .v rfl
        | 4, hu => cases hu; exact .v rfl
        | 5, hu => cases hu; exact .v rfl
        | j + 6, hu => cases hu
    · simp at hu
  · rintro e w' ⟨q, g', v, rfl, rfl, hres, hb⟩
    have hres : Rep w' g' (.v (.string ⟨(lineR r).toArray⟩)) v := hres
    cases hres
    exact ⟨rfl, hb⟩
/-- A builder stays one while what lies beside it comes. -/
theorem bld_below {T e B b : Nat} {bs : List Value} {w w' : World} (h : Lib.IsBuilderF T e B b bs w) (hb : Below w.heap.size w w') : Lib.IsBuilderF T e B b bs w' := by
  have one : ∀ p, Lib.BuilderAtF T e B b p bs w → Lib.BuilderAtF T e B b p bs w' := fun p h => by
    have hlt := h.lt
    obtain ⟨h1, v, h2, h3, h4⟩ := h
    exact ⟨h1, v, by rw [hb.block b hlt]; exact h2, h3.kept (row := none) ⟨hb.os, hb.tape, hb.output, hb.size, fun k hk _ => hb.block k hk⟩ (by cases hv : v.ownBlock <;> simp), h4⟩
  exact h.imp (one _) (one _)
theorem lines_snoc (l : List Rw) (i : Nat) (hi : i < l.length) : linesOf (l.take (i + 1)) = linesOf (l.take i) ++ (lineR l[i] ++ [10]) := by
  rw [List.take_add_one, List.getElem?_eq_getElem hi]
  unfold linesOf
  rw [List.flatMap_append]
  simp
theorem lines_le (l : List Rw) (i : Nat) : (linesOf (l.take i)).length ≤ (linesOf l).length := by
  have h : linesOf l = linesOf (l.take i) ++ linesOf (l.drop i) := by
    unfold linesOf
    rw [← List.flatMap_append, List.take_append_drop]
  rw [h, List.length_append]; omega
def rowCells (r : Rw) (j : Nat) : Value := (rwV r).getD j undef
set_option maxHeartbeats 4000000 in
set_option maxRecDepth 100000 in
theorem print_calls (l : List Rw) (hl : l.length ≤ 1000000) (hok : ∀ r ∈ l, r.ok) (hpl : (printP l).length ≤ 1000000) (ao : Option Addr) (b o c : Nat) (hc : l.length ≤ c) (hcm : c ≤ 9223372036854775807) (hao : l ≠ [] → ao = some ⟨b, o, none⟩) (w : World)
    (hcell : ∀ i (hi : i < l.length) j, j < 6 → w.cell? ⟨b, o + i * 6 + j, none⟩ = some (rowCells l[i] j)) :
    Calls Tryd.prog 10 #[.slice ao l.length c] w fun e w' => e = .returned (.string ⟨(printP l).toArray⟩) ∧ Below w.heap.size w w' := by
  have hA : Lib.IsBuilderF 48 5 w.heap.size w.heap.size [] (w.alloc (.cells #[.pointer none, .slice none 0 0] 48)) := Lib.IsBuilderF.of (Lib.fresh_isBuilder 48 5 w)
  have b0 : Below w.heap.size w (w.alloc (.cells #[.pointer none, .slice none 0 0] 48)) := (Below.refl _ w).alloc (Nat.le_refl _) _
  have HC := Lib.hid hcell
  have HO := Lib.hid hok
  have HP := Lib.hid hpl
  have HA := Lib.hid hao
  clear hcell hok hpl hao
  go_enter Tryd.func10, Tryd.ntmps10
  go_wp2_with (go_at_call 16; refine (Any.Builder_WriteString_k bStrL bxJoin w.heap.size w.heap.size [] _ _ hA (by simp [ByteArray.size]) b0.size).mono ?_; rintro e W1 ⟨rfl, h1, b1, -⟩)
  go_loopw [9] (fun iv wr => ∃ i : Nat, iv = .int .i64 i ∧ i ≤ l.length ∧ Lib.IsBuilderF 48 5 w.heap.size w.heap.size (Lib.byteCells (headB ++ 10 :: linesOf (l.take i))) wr ∧ Below w.heap.size w wr) (fun iv wr => l.length - (intOf iv).toNat)
  case atStart =>
    refine ⟨0, rfl, Nat.zero_le _, ?_, b0.trans b1⟩
    rw [List.nil_append, Lib.strCells_eq] at h1
    exact Or.inr h1
  case round =>
    obtain ⟨i, rfl, hi, hI, hbl⟩ := hrel
    by_cases hlt : i < l.length
    · have hne : l ≠ [] := fun e => by rw [e] at hlt; simp at hlt
      have hae := HA.out hne
      subst hae
      have hxe : ∃ r, l[i] = r := ⟨_, rfl⟩
      rcases hxe with ⟨r, hr⟩
      have hrok : r.ok := by rw [← hr]; exact HO.out _ (List.getElem_mem hlt)
      have hbw : b < w.heap.size := World.block_lt_of_cell? w _ (HC.out i hlt 0 (by decide))
      have hcw : ∀ j, j < 6 → wr.cell? ⟨b, o + i * 6 + j, none⟩ = some (rowCells r j) := fun j hj => by
        rw [World.cell?_of_block (a := ⟨b, o + i * 6 + j, none⟩) (hbl.block b hbw), ← hr]
        exact HC.out i hlt j hj
      have k0 : wr.cell? ⟨b, o + i * 6, none⟩ = some (.int .i64 r.id) := hcw 0 (by decide)
      have k1 : wr.cell? ⟨b, o + i * 6 + 1, none⟩ = some (.int .i64 r.year) := hcw 1 (by decide)
      have k2 : wr.cell? ⟨b, o + i * 6 + 2, none⟩ = some (.int .i64 r.kind) := hcw 2 (by decide)
      have k3 : wr.cell? ⟨b, o + i * 6 + 3, none⟩ = some (.int .i64 r.fund) := hcw 3 (by decide)
      have k4 : wr.cell? ⟨b, o + i * 6 + 4, none⟩ = some (.int .i64 r.obj) := hcw 4 (by decide)
      have k5 : wr.cell? ⟨b, o + i * 6 + 5, none⟩ = some (.int .i64 r.amt) := hcw 5 (by decide)
      clear hcw
      have hX : Below wr.heap.size wr (wr.alloc (.cells #[.int .i64 r.id, .int .i64 r.year, .int .i64 r.kind, .int .i64 r.fund, .int .i64 r.obj, .int .i64 r.amt] 36)) := (Below.refl _ wr).alloc (Nat.le_refl _) _
      have hll : (lineR r).length ≤ 126 := by
        have := joinC_len (r.nums.map textN) (texts_le (nums_ok hrok))
        rw [List.length_map, nums_len] at this
        exact this
      have hpre : (headB ++ 10 :: linesOf (l.take i)).length ≤ 1000000 := by
        have h1 := HP.out
        have h2 := lines_le l i
        unfold printP at h1
        rw [List.length_append, List.length_cons] at h1 ⊢
        omega
      have hsz : ((⟨(lineR r).toArray⟩ : ByteArray) ++ (⟨#[10]⟩ : ByteArray)).size = (lineR r).length + 1 := by rw [show (⟨#[10]⟩ : ByteArray) = ⟨[10].toArray⟩ from rfl, app_mk, sz_mk]; simp
      have hst : Lib.strCells ((⟨(lineR r).toArray⟩ : ByteArray) ++ (⟨#[10]⟩ : ByteArray)) = Lib.byteCells (lineR r ++ [10]) := by rw [show (⟨#[10]⟩ : ByteArray) = ⟨[10].toArray⟩ from rfl, app_mk, Lib.strCells_eq]
      have hsn := lines_snoc l i hlt
      rw [hr] at hsn
      have HS := Lib.hid hst
      have HN := Lib.hid hsn
      have HL := Lib.hid hpre
      have HZ := Lib.hid hsz
      clear hst hsn hpre hsz
      go_wp2_with (first
        | (go_at_call 17; refine (line_calls r hrok _).mono ?_; rintro e W2 ⟨rfl, b2⟩)
        | (go_at_call 16; refine (Any.Builder_WriteString_k bStrL bxJoin w.heap.size w.heap.size _ _ _ (bld_below (bld_below hI hX) b2) (by have h1 := HL.out; have h2 := HZ.out; rw [Lib.byteCells_length]; omega) (Nat.le_trans hbl.size (Nat.le_trans hX.size b2.size))).mono ?_; rintro e W3 ⟨rfl, h3, b3, -⟩))
      go_roundw
      case rel =>
        refine ⟨i + 1, by go_num, hlt, ?_, hbl.trans ((hX.mono hbl.size).trans ((b2.mono (Nat.le_trans hbl.size hX.size)).trans b3))⟩
        rw [HS.out, ← Lib.byteCells_append] at h3
        have e1 : headB ++ 10 :: linesOf (l.take (i + 1)) = (headB ++ 10 :: linesOf (l.take i)) ++ (lineR r ++ [10]) := by rw [HN.out]; simp
        rw [e1]
        exact Or.inr h3
      case measure => simp only [intOf]; omega
    · have hiL : l.take i = l := List.take_of_length_le (by omega)
      rw [hiL] at hI
      have hI : Lib.IsBuilderF 48 5 w.heap.size w.heap.size (Lib.byteCells (printP l)) wr := hI
      go_wp2_with (go_at_call 18; refine (Any.Builder_String_any_k Tryd.bString bxString w.heap.size w.heap.size _ _ hI hbl.size).mono ?_; rintro e W2 ⟨rfl, -, b2, -⟩)
      go_ret
      exact ⟨rfl, hbl.trans b2⟩
theorem does_print : Does Tryd.prog 10 prSpec := by
  refine ⟨⟨Tryd.f10, Tryd.func10, by kernel_rfl, by decide +kernel⟩, ?_⟩
  rintro args h Q ⟨l, hln, hok, hpl, rfl, hq⟩ w g vs hvs hrep hh hfr hlaid
  have h0 := hrep 0 _ rfl
  have hsl : ∃ ao b o c, vs.getD 0 undef = .slice ao l.length c ∧ l.length ≤ c ∧ c ≤ 9223372036854775807 ∧ (l ≠ [] → ao = some ⟨b, o, none⟩) ∧ ∀ i (hi : i < l.length) j, j < 6 → w.cell? ⟨b, o + i * 6 + j, none⟩ = some (rowCells l[i] j) := by
    generalize vs.getD 0 undef = v at h0
    generalize hx : l.map rwAv = xs at h0
    cases h0 with
    | nil =>
      have he : l = [] := List.map_eq_nil_iff.1 hx
      subst he
      exact ⟨none, 0, 0, 0, rfl, Nat.le_refl _, by decide, fun h => absurd rfl h, fun i hi => absurd hi (Nat.not_lt_zero _)⟩
    | empty sz a c hc =>
      have he : l = [] := List.map_eq_nil_iff.1 hx
      subst he
      exact ⟨some a, 0, 0, c, rfl, Nat.zero_le _, by unfold maxLen at hc; omega, fun h => absurd rfl h, fun i hi => absurd hi (Nat.not_lt_zero _)⟩
    | @sl _ _ b o c vs' hc hm hsz hu hr hs =>
      subst hx
      rw [List.length_map] at hc
      refine ⟨some ⟨b, o, none⟩, b, o, c, by rw [List.length_map], hc, by unfold maxLen at hm; omega, fun _ => rfl, fun i hi j hj => ?_⟩
      have hel := row_elem (sz := 6) (xs := l.map rwAv) (cs := flat (l.map rwAv)) flat_rw (by rw [List.take_of_length_le (by rw [flat_length flat_rw]; exact Nat.le_refl _)]) i (by rw [List.length_map]; exact hi)
      rw [List.getElem_map] at hel
      have hget : ∃ x, (flat (l.map rwAv))[i * 6 + j]? = some (.v x) ∧ rowCells l[i] j = x := by
        have h1 : ((flat (l.map rwAv)).drop (i * 6)).take 6 = rwCells l[i] := hel.1
        have h2 : (((flat (l.map rwAv)).drop (i * 6)).take 6)[j]? = (flat (l.map rwAv))[i * 6 + j]? := by
          rw [List.getElem?_take, if_pos hj, List.getElem?_drop]
        rw [h1] at h2
        generalize l[i] = r at h2
        match j, hj with
        | 0, _ => exact ⟨_, h2.symm, rfl⟩
        | 1, _ => exact ⟨_, h2.symm, rfl⟩
        | 2, _ => exact ⟨_, h2.symm, rfl⟩
        | 3, _ => exact ⟨_, h2.symm, rfl⟩
        | 4, _ => exact ⟨_, h2.symm, rfl⟩
        | 5, _ => exact ⟨_, h2.symm, rfl⟩
      obtain ⟨x, hg, hx⟩ := hget
      have h1 := (hr _ _ hg).1
      have h2 := (rep_v (hs _ _ hg)).1
      rw [Nat.add_assoc, h1, h2, hx]
  obtain ⟨ao, b, o, c, hv0, hc, hcm, hao, hcell⟩ := hsl
  have hvs2 : vs = #[.slice ao l.length c] := by
    have h2 : vs.size = 1 := hvs
    apply Array.ext
    · simpa using h2
    · intro i hi1 hi2
      have : i = 0 := by omega
      subst this
      simpa [Array.getD, h2] using hv0
  rw [hvs2]
  refine (print_calls l hln hok hpl ao b o c hc hcm hao w hcell).mono ?_
  rintro e w' ⟨rfl, hb⟩
  exact plain_end hh hfr hb hq fun w g B => Rep.v rfl
end Go.Proofs.Lx
/- CsvParses, CsvBack: the laws. -/
set_option linter.unusedSimpArgs false
set_option linter.unusedVariables false
namespace Go.Proofs.Lx
open Go.Vm Go.RowKit
attribute [local irreducible] awpArr awpBin awpMake awpAppend awpCvX awpStrOf awpBinX awpSlice awpBS awpStore awpAlloc awpCopy awpIndex awpDraw awpIdxX awpFa awpField awpLookup awpUpdate awpDelete awpClear awpRange awpNext awpEntry awpBuild awpClearS awpIdxL awpTree appB awpIdxO eltA treeA
theorem idx_map49 {α : Type} (g : α → AV) (l : List α) (i : Nat) (hi : i < l.length) {e sz : Nat} {K : AV → Prop} (hK : K (.eptr (g l[i]).cells)) : awpIdx (some (e, sz)) (.sl sz (l.map g)) (.v (.int .i64 i)) K := idx_mp g l i hi hK
theorem rwEq (x y : Rw) : ((x.id == y.id) && ((x.year == y.year) && ((x.kind == y.kind) && ((x.fund == y.fund) && ((x.obj == y.obj) && ((x.amt == y.amt))))))) = true ↔ x = y := by
  obtain ⟨a, b, c, d, e, f⟩ := x
  obtain ⟨a2, b2, c2, d2, e2, f2⟩ := y
  simp [and_assoc]
def eqSpecRw : Vm.Spec := fun args h Q => ∃ l l' : List Rw, l.length ≤ 9223372036854775807 ∧ args = [.sl 6 (l.map rwAv), .sl 6 (l'.map rwAv)] ∧ ∀ b : Bool, (b = true ↔ l = l') → Q (.v (.bool b)) h
set_option maxHeartbeats 1000000 in
theorem does_eqRw : Does Tryd.prog 11 eqSpecRw := by
  refine does_of_awp good_nil Tryd.func11 rfl (by decide +kernel) (by decide +kernel) ?_
  rintro args h Q ⟨l, l', hl, rfl, hq⟩
  refine ⟨by simp [Tryd.f11], ?_⟩
  rw [awpFunc_some (by rfl)]
  simp -dsimp only [Vm.G, List.lookup, Nat.reduceAdd, Nat.reduceBEq, Int.reduceBNe, Int.reduceBEq, Nat.reduceLeDiff, q11]
  by_cases hlen : l.length = l'.length
  · have c1 : ((l.length : Int) != l'.length) = false := by simp [hlen]
    simp -dsimp only [Vm.G, List.lookup, Nat.reduceAdd, Nat.reduceBEq, Int.reduceBNe, Int.reduceBEq, Nat.reduceLeDiff, q11, c1]
    refine awp_loop (fun m s h' => ∃ i : Nat, i + m = l.length ∧ h' = h ∧ (∀ j (hj : j < l.length), j < i → l[j] = l'[j]'(by omega)) ∧ s = mk [(0, .sl 6 (l.map rwAv)), (1, .sl 6 (l'.map rwAv)), (12, .v (.int .i64 l.length)), (13, .v (.int .i64 i))])
      l.length _ (le_mk _ ?_) ⟨0, by omega, rfl, fun j _ hj => by omega, rfl⟩ ?_
    · simp only [List.forall_mem_cons, List.not_mem_nil, false_imp_iff, implies_true, and_true]
      try simp -dsimp only [Vm.G, List.lookup, Nat.reduceAdd, Nat.reduceBEq, Int.reduceBNe, Int.reduceBEq, Nat.reduceLeDiff, q11]
      repeat' first | exact Fg.refl _ | exact Fg.nil _ _ _ (by decide) | refine And.intro ?_ ?_
    · rintro m s h' ⟨i, hi, rfl, hb, rfl⟩
      simp -dsimp only [Vm.G, List.lookup, Nat.reduceAdd, Nat.reduceBEq, Int.reduceBNe, Int.reduceBEq, Nat.reduceLeDiff, q11]
      refine cond_intro (fun hcc => ?_) (fun hcc => ?_)
      · have hlt : i < l.length := by have := of_decide_eq_true hcc; omega
        have hlt' : i < l'.length := by omega
        obtain ⟨x, hx⟩ : ∃ x, l[i] = x := ⟨_, rfl⟩
        obtain ⟨y, hy⟩ : ∃ y, l'[i] = y := ⟨_, rfl⟩
        have hw : IntKind.i64.wrap ((i : Int) + 1) = ((i + 1 : Nat) : Int) := by rw [wrap_i64 (by omega) (by omega)]; simp
        simp -dsimp only [Vm.G, List.lookup, Nat.reduceAdd, Nat.reduceBEq, Int.reduceBNe, Int.reduceBEq, Nat.reduceLeDiff, q11]
        refine draw_cont [] (.take 0 (.take 1 (.take 2 (.take 3 (.take 4 (.take 5 (.take 6 (.take 7 (.take 8 (.done)))))))))) (fun s hx => hx = h' ∧ (∃ b : Bool, (b = true ↔ x = y) ∧ s 24 = .v (.bool (!b))) ∧ s 0 = .sl 6 (l.map rwAv) ∧ s 1 = .sl 6 (l'.map rwAv) ∧ s 12 = .v (.int .i64 l.length) ∧ s 13 = .v (.int .i64 i)) (by kernel_rfl) (by kernel_rfl) (by kernel_rfl) (by decide) ?_ ?_
        · simp -dsimp only [Vm.G, List.lookup, Nat.reduceAdd, Nat.reduceBEq, Int.reduceBNe, Int.reduceBEq, Nat.reduceLeDiff, q11]
          refine idx_map49 rwAv l i hlt ?_
          simp only [hx, rwAv, rwCells]
          simp -dsimp only [Vm.G, List.lookup, Nat.reduceAdd, Nat.reduceBEq, Int.reduceBNe, Int.reduceBEq, Nat.reduceLeDiff, q11, AV.cells]
          refine idx_map49 rwAv l' i hlt' ?_
          simp only [hy, rwAv, rwCells]
          simp -dsimp only [Vm.G, List.lookup, Nat.reduceAdd, Nat.reduceBEq, Int.reduceBNe, Int.reduceBEq, Nat.reduceLeDiff, q11, AV.cells]
          refine eq_agg fd36 rfl ?_
          simp -dsimp only [Vm.G, List.lookup, Nat.reduceAdd, Nat.reduceBEq, Int.reduceBNe, Int.reduceBEq, Nat.reduceLeDiff, q11]
          refine ⟨⟨_, rwEq x y, rfl⟩, ?_⟩
          repeat' first | rfl | exact True.intro | refine And.intro ?_ ?_
        · rintro s hx2 ⟨rfl, ⟨b, hbe, e24⟩, e0, e1, e12, e13⟩
          cases b
          · have hne : ¬ l = l' := fun e => by
              have : x = y := by subst e; rw [← hx, ← hy]
              have := hbe.2 this
              cases this
            simp -dsimp only [Vm.G, List.lookup, Nat.reduceAdd, Nat.reduceBEq, Int.reduceBNe, Int.reduceBEq, Nat.reduceLeDiff, q11, e24, e0, e1, e12, e13]
            exact hq false ⟨fun h => (by cases h), fun h => (hne h).elim⟩
          · have he := hbe.1 rfl
            simp -dsimp only [Vm.G, List.lookup, Nat.reduceAdd, Nat.reduceBEq, Int.reduceBNe, Int.reduceBEq, Nat.reduceLeDiff, q11, e24, e0, e1, e12, e13]
            refine kept_intro ⟨l.length - (i + 1), by omega, _, le_mk [(0, .sl 6 (l.map rwAv)), (1, .sl 6 (l'.map rwAv)), (12, .v (.int .i64 l.length)), (13, .v (.int .i64 (i + 1 : Nat)))] ?_, i + 1, by omega, rfl, fun j hj hj2 => ?_, rfl⟩
            · simp only [List.forall_mem_cons, List.not_mem_nil, false_imp_iff, implies_true, and_true, hw, e24, e0, e1, e12, e13]
              try simp -dsimp only [Vm.G, List.lookup, Nat.reduceAdd, Nat.reduceBEq, Int.reduceBNe, Int.reduceBEq, Nat.reduceLeDiff, q11, hw, e24, e0, e1, e12, e13]
              repeat' first | exact Fg.refl _ | exact Fg.nil _ _ _ (by decide) | refine And.intro ?_ ?_
            · by_cases hji : j = i
              · subst hji; rw [hx, hy]; exact he
              · exact hb j hj (by omega)
      · have hge : ¬ i < l.length := by have := of_decide_eq_false hcc; omega
        have he : l = l' := List.ext_getElem hlen fun j h1 h2 => hb j h1 (by omega)
        simp -dsimp only [Vm.G, List.lookup, Nat.reduceAdd, Nat.reduceBEq, Int.reduceBNe, Int.reduceBEq, Nat.reduceLeDiff, q11]
        exact hq true ⟨fun _ => he, fun _ => rfl⟩
  · have c1 : ((l.length : Int) != l'.length) = true := by simp; omega
    simp -dsimp only [Vm.G, List.lookup, Nat.reduceAdd, Nat.reduceBEq, Int.reduceBNe, Int.reduceBEq, Nat.reduceLeDiff, q11, c1]
    exact hq false ⟨fun h => (by cases h), fun h => (hlen (by rw [h])).elim⟩
def sameRSpec : Vm.Spec := fun args h Q => ∃ l l' : List Rw, args = [.sl 6 (l.map rwAv), .sl 6 (l'.map rwAv)] ∧ l.length ≤ 9223372036854775807 ∧ (l = l' → Q (.v (.bool true)) h) ∧ (l ≠ l' → Q (.v (.bool false)) h)
set_option maxHeartbeats 1000000 in
theorem does_sameR : Does Tryd.prog 8 sameRSpec := by
  refine does_of_awp good_nil Tryd.func8 rfl (by decide +kernel) (by decide +kernel) ?_
  rintro args h Q ⟨l, l', rfl, hl, hq1, hq0⟩
  refine ⟨by simp [Tryd.f8], ?_⟩
  rw [awpFunc_some (by rfl)]
  simp -dsimp only [Vm.G, List.lookup, Nat.reduceAdd, Nat.reduceBEq, Int.reduceBNe, Int.reduceBEq, Nat.reduceLeDiff, q8]
  by_cases hlen : l.length = l'.length
  · have c1 : ((l.length : Int) != l'.length) = false := by simp [hlen]
    simp -dsimp only [Vm.G, List.lookup, Nat.reduceAdd, Nat.reduceBEq, Int.reduceBNe, Int.reduceBEq, Nat.reduceLeDiff, q8, c1]
    refine awp_loop (fun m s h' => ∃ i : Nat, i + m = l.length ∧ h' = h ∧ (∀ j (hj : j < l.length), j < i → l[j] = l'[j]'(by omega)) ∧ s = mk [(0, .sl 6 (l.map rwAv)), (1, .sl 6 (l'.map rwAv)), (5, .v (.int .i64 i))])
      l.length _ (le_mk _ ?_) ⟨0, by omega, rfl, fun j _ hj => by omega, rfl⟩ ?_
    · simp only [List.forall_mem_cons, List.not_mem_nil, false_imp_iff, implies_true, and_true]
      try simp -dsimp only [Vm.G, List.lookup, Nat.reduceAdd, Nat.reduceBEq, Int.reduceBNe, Int.reduceBEq, Nat.reduceLeDiff, q8]
      repeat' first | exact Fg.refl _ | exact Fg.nil _ _ _ (by decide) | refine And.intro ?_ ?_
    · rintro m s h' ⟨i, hi, rfl, hb, rfl⟩
      simp -dsimp only [Vm.G, List.lookup, Nat.reduceAdd, Nat.reduceBEq, Int.reduceBNe, Int.reduceBEq, Nat.reduceLeDiff, q8]
      refine cond_intro (fun hcc => ?_) (fun hcc => ?_)
      · have hlt : i < l.length := by have := of_decide_eq_true hcc; simp at this; omega
        have hlt' : i < l'.length := by omega
        obtain ⟨x, hx⟩ : ∃ x, l[i] = x := ⟨_, rfl⟩
        obtain ⟨y, hy⟩ : ∃ y, l'[i] = y := ⟨_, rfl⟩
        have hw : IntKind.i64.wrap ((i : Int) + 1) = ((i + 1 : Nat) : Int) := by rw [wrap_i64 (by omega) (by omega)]; simp
        simp -dsimp only [Vm.G, List.lookup, Nat.reduceAdd, Nat.reduceBEq, Int.reduceBNe, Int.reduceBEq, Nat.reduceLeDiff, q8]
        refine draw_cont [] (.take 0 (.take 1 (.take 2 (.take 3 (.take 4 (.take 5 (.take 6 (.take 7 (.take 8 (.done)))))))))) (fun s hx => hx = h' ∧ (∃ b : Bool, (b = true ↔ x = y) ∧ s 25 = .v (.bool (!b))) ∧ s 0 = .sl 6 (l.map rwAv) ∧ s 1 = .sl 6 (l'.map rwAv) ∧ s 5 = .v (.int .i64 i)) (by kernel_rfl) (by kernel_rfl) (by kernel_rfl) (by decide) ?_ ?_
        · simp -dsimp only [Vm.G, List.lookup, Nat.reduceAdd, Nat.reduceBEq, Int.reduceBNe, Int.reduceBEq, Nat.reduceLeDiff, q8]
          refine idx_map49 rwAv l i hlt ?_
          simp only [hx, rwAv, rwCells]
          simp -dsimp only [Vm.G, List.lookup, Nat.reduceAdd, Nat.reduceBEq, Int.reduceBNe, Int.reduceBEq, Nat.reduceLeDiff, q8, AV.cells]
          refine idx_map49 rwAv l' i hlt' ?_
          simp only [hy, rwAv, rwCells]
          simp -dsimp only [Vm.G, List.lookup, Nat.reduceAdd, Nat.reduceBEq, Int.reduceBNe, Int.reduceBEq, Nat.reduceLeDiff, q8, AV.cells]
          refine eq_agg fd42 rfl ?_
          simp -dsimp only [Vm.G, List.lookup, Nat.reduceAdd, Nat.reduceBEq, Int.reduceBNe, Int.reduceBEq, Nat.reduceLeDiff, q8]
          refine ⟨⟨_, rwEq x y, rfl⟩, ?_⟩
          repeat' first | rfl | exact True.intro | refine And.intro ?_ ?_
        · rintro s hx2 ⟨rfl, ⟨b, hbe, e25⟩, e0, e1, e5⟩
          cases b
          · have hne : ¬ l = l' := fun e => by
              have : x = y := by subst e; rw [← hx, ← hy]
              have := hbe.2 this
              cases this
            simp -dsimp only [Vm.G, List.lookup, Nat.reduceAdd, Nat.reduceBEq, Int.reduceBNe, Int.reduceBEq, Nat.reduceLeDiff, q8, e25, e0, e1, e5]
            exact hq0 hne
          · have he := hbe.1 rfl
            simp -dsimp only [Vm.G, List.lookup, Nat.reduceAdd, Nat.reduceBEq, Int.reduceBNe, Int.reduceBEq, Nat.reduceLeDiff, q8, e25, e0, e1, e5]
            refine kept_intro ⟨l.length - (i + 1), by omega, _, le_mk [(0, .sl 6 (l.map rwAv)), (1, .sl 6 (l'.map rwAv)), (5, .v (.int .i64 (i + 1 : Nat)))] ?_, i + 1, by omega, rfl, fun j hj hj2 => ?_, rfl⟩
            · simp only [List.forall_mem_cons, List.not_mem_nil, false_imp_iff, implies_true, and_true, hw, e25, e0, e1, e5]
              try simp -dsimp only [Vm.G, List.lookup, Nat.reduceAdd, Nat.reduceBEq, Int.reduceBNe, Int.reduceBEq, Nat.reduceLeDiff, q8, hw, e25, e0, e1, e5]
              repeat' first | exact Fg.refl _ | exact Fg.nil _ _ _ (by decide) | refine And.intro ?_ ?_
            · by_cases hji : j = i
              · subst hji; rw [hx, hy]; exact he
              · exact hb j hj (by omega)
      · have hge : ¬ i < l.length := by have := of_decide_eq_false hcc; simp at this; omega
        have he : l = l' := List.ext_getElem hlen fun j h1 h2 => hb j h1 (by omega)
        simp -dsimp only [Vm.G, List.lookup, Nat.reduceAdd, Nat.reduceBEq, Int.reduceBNe, Int.reduceBEq, Nat.reduceLeDiff, q8]
        exact hq1 he
  · have c1 : ((l.length : Int) != l'.length) = true := by simp; omega
    simp -dsimp only [Vm.G, List.lookup, Nat.reduceAdd, Nat.reduceBEq, Int.reduceBNe, Int.reduceBEq, Nat.reduceLeDiff, q8, c1]
    exact hq0 (fun h => hlen (by rw [h]))
def ownSpec : Vm.Spec := fun args h Q => ∃ l : List Rw, l.length ≤ 1048576 ∧ args = [.sl 6 (l.map rwAv)] ∧ Q (.own true 42 6 (l.map rwAv)) h
set_option maxHeartbeats 1000000 in
theorem does_own : Does Tryd.prog 9 ownSpec := by
  refine does_of_awp good_nil Tryd.func9 rfl (by decide +kernel) (by decide +kernel) ?_
  rintro args h Q ⟨l, hl, rfl, hq⟩
  refine ⟨by simp [Tryd.f9], ?_⟩
  rw [awpFunc_some (by rfl)]
  simp -dsimp only [Vm.G, List.lookup, Nat.reduceAdd, Nat.reduceBEq, Int.reduceBNe, Int.reduceBEq, Nat.reduceLeDiff, q9]
  refine awp_loop (fun m s h' => ∃ i : Nat, i + m = l.length ∧ h' = h ∧ s = mk [(3, .own true 42 6 ((l.take (i)).map rwAv)), (6, .sl 6 (l.map rwAv)), (7, .v (.int .i64 l.length)), (8, .v (.int .i64 (i : Nat)))])
    l.length _ (le_mk _ ?_) ⟨0, by omega, rfl, rfl⟩ ?_
  · simp only [List.forall_mem_cons, List.not_mem_nil, false_imp_iff, implies_true, and_true]
    try simp -dsimp only [Vm.G, List.lookup, Nat.reduceAdd, Nat.reduceBEq, Int.reduceBNe, Int.reduceBEq, Nat.reduceLeDiff, q9]
    repeat' first | exact Fg.refl _ | exact Fg.nil _ _ _ (by decide) | refine And.intro ?_ ?_
  · rintro m s h' ⟨i, hi, rfl, rfl⟩
    simp -dsimp only [Vm.G, List.lookup, Nat.reduceAdd, Nat.reduceBEq, Int.reduceBNe, Int.reduceBEq, Nat.reduceLeDiff, q9]
    refine cond_intro (fun hcc => ?_) (fun hcc => ?_)
    · have hlt : i < l.length := by have := of_decide_eq_true hcc; omega
      have hw : IntKind.i64.wrap ((i : Int) + 1) = ((i + 1 : Nat) : Int) := by rw [wrap_i64 (by omega) (by omega)]; simp
      have htk : l.take (i + 1) = l.take i ++ [l[i]] := by rw [List.take_add_one, List.getElem?_eq_getElem hlt]; rfl
      have hxe : ∃ x, l[i] = x := ⟨_, rfl⟩
      rcases hxe with ⟨x, hx⟩
      rw [hx] at htk
      simp -dsimp only [Vm.G, List.lookup, Nat.reduceAdd, Nat.reduceBEq, Int.reduceBNe, Int.reduceBEq, Nat.reduceLeDiff, q9]
      refine idx_map49 rwAv l i hlt ?_
      simp only [hx, rwAv, rwCells]
      simp -dsimp only [Vm.G, List.lookup, Nat.reduceAdd, Nat.reduceBEq, Int.reduceBNe, Int.reduceBEq, Nat.reduceLeDiff, q9, AV.cells]
      refine bs_intro zr42 (by decide) (by decide) rfl rfl (by simp [solid, AV.cells]) ?_
      simp -dsimp only [Vm.G, List.lookup, Nat.reduceAdd, Nat.reduceBEq, Int.reduceBNe, Int.reduceBEq, Nat.reduceLeDiff, q9]
      refine app_sl Tryd.underlying27 (by simp [AV.cells]) (by simp only [List.length_map, List.length_take, List.length_cons, List.length_nil]; omega) ?_
      simp -dsimp only [Vm.G, List.lookup, Nat.reduceAdd, Nat.reduceBEq, Int.reduceBNe, Int.reduceBEq, Nat.reduceLeDiff, q9]
      refine kept_intro ⟨l.length - (i + 1), by omega, _, le_mk [(3, .own true 42 6 ((l.take (i + 1)).map rwAv)), (6, .sl 6 (l.map rwAv)), (7, .v (.int .i64 l.length)), (8, .v (.int .i64 (i + 1 : Nat)))] ?_, i + 1, by omega, rfl, rfl⟩
      simp only [List.forall_mem_cons, List.not_mem_nil, false_imp_iff, implies_true, and_true, hw, htk, List.map_append, List.map_cons, List.map_nil, rwAv, rwCells]
      try simp -dsimp only [Vm.G, List.lookup, Nat.reduceAdd, Nat.reduceBEq, Int.reduceBNe, Int.reduceBEq, Nat.reduceLeDiff, q9, hw, htk, List.map_append, List.map_cons, List.map_nil, rwAv, rwCells]
      repeat' first | exact Fg.refl _ | exact Fg.nil _ _ _ (by decide) | refine And.intro ?_ ?_
    · have hge : ¬ i < l.length := by have := of_decide_eq_false hcc; omega
      rw [List.take_of_length_le (by omega)]
      simp -dsimp only [Vm.G, List.lookup, Nat.reduceAdd, Nat.reduceBEq, Int.reduceBNe, Int.reduceBEq, Nat.reduceLeDiff, q9]
      exact hq
def awk1 : List UInt8 := [105, 100, 44, 121, 101, 97, 114, 44, 107, 105, 110, 100, 44, 102, 117, 110, 100, 44, 111, 98, 106, 101, 99, 116, 44, 97, 109, 111, 117, 110, 116, 10, 49, 44, 50, 48, 50, 48, 44, 49, 44, 49, 48, 48, 44, 53, 48, 49, 48, 44, 45, 53, 10]
def awk2 : List UInt8 := [105, 100, 44, 121, 101, 97, 114, 44, 107, 105, 110, 100, 44, 102, 117, 110, 100, 44, 111, 98, 106, 101, 99, 116, 44, 97, 109, 111, 117, 110, 116, 10, 49, 44, 50, 48, 50, 48, 10]
theorem awk1_eq : awk1 = printP [⟨1, 2020, 1, 100, 5010, -5⟩] := by kernel_rfl
theorem awk1_csv : csvP awk1 = ([⟨1, 2020, 1, 100, 5010, -5⟩], 0, 0) := by
  rw [awk1_eq]
  refine csv_back fun r hr => ?_
  rw [List.mem_singleton] at hr
  subst hr
  refine ⟨?_, ?_, ?_, ?_, ?_, ?_⟩ <;> · unfold I64; simp only; omega
theorem awk2_csv : csvP awk2 = ([], 2, 4) := by kernel_rfl
def yesSpec49 : Vm.Spec := fun args h Q => args = [] ∧ Q (.v (.bool true)) h
set_option maxRecDepth 20000 in
set_option maxHeartbeats 2000000 in
theorem does_awake49 : Does Tryd.prog 5 yesSpec49 := by
  refine does_of_awp (good_cons does_csvP (good_cons does_eqRw good_nil)) Tryd.func5 rfl (by decide +kernel) (by decide +kernel) ?_
  rintro args h Q ⟨rfl, hq⟩
  refine ⟨by simp [Tryd.f5], ?_⟩
  rw [awpFunc_some (by rfl)]
  simp -dsimp only [Vm.G, List.lookup, Nat.reduceAdd, Nat.reduceBEq, Int.reduceBNe, Int.reduceBEq, Nat.reduceLeDiff, q5]
  refine call_one (S := csvSpec csvP) rfl _ GaL.rfl ⟨awk1, by decide, rfl, fun x hx => ?_⟩
  rw [awk1_csv] at hx ⊢
  have hx : x = .sl 6 (List.map rwAv [⟨1, 2020, 1, 100, 5010, -5⟩]) := hx.resolve_right fun h => by simp at h
  subst hx
  simp only [iv]
  simp -dsimp only [Vm.G, List.lookup, Nat.reduceAdd, Nat.reduceBEq, Int.reduceBNe, Int.reduceBEq, Nat.reduceLeDiff, q5]
  refine call_one (S := csvSpec csvP) rfl _ GaL.rfl ⟨awk2, by decide, rfl, fun y hy => ?_⟩
  rw [awk2_csv] at hy ⊢
  simp only [iv]
  rcases hy with rfl | ⟨-, rfl⟩
  · simp -dsimp only [Vm.G, List.lookup, Nat.reduceAdd, Nat.reduceBEq, Int.reduceBNe, Int.reduceBEq, Nat.reduceLeDiff, q5]
    refine bs_intro zr36 (by decide) (by decide) rfl rfl (by simp [solid, AV.cells]) ?_
    simp -dsimp only [Vm.G, List.lookup, Nat.reduceAdd, Nat.reduceBEq, Int.reduceBNe, Int.reduceBEq, Nat.reduceLeDiff, q5]
    refine call_one (S := eqSpecRw) rfl _ GaL.rfl ⟨[⟨1, 2020, 1, 100, 5010, -5⟩], [⟨1, 2020, 1, 100, 5010, -5⟩], by decide, rfl, fun b hb => ?_⟩
    rw [hb.2 rfl]
    simp -dsimp only [Vm.G, List.lookup, Nat.reduceAdd, Nat.reduceBEq, Int.reduceBNe, Int.reduceBEq, Nat.reduceLeDiff, q5]
    exact hq
  · simp -dsimp only [Vm.G, List.lookup, Nat.reduceAdd, Nat.reduceBEq, Int.reduceBNe, Int.reduceBEq, Nat.reduceLeDiff, q5]
    refine bs_intro zr36 (by decide) (by decide) rfl rfl (by simp [solid, AV.cells]) ?_
    simp -dsimp only [Vm.G, List.lookup, Nat.reduceAdd, Nat.reduceBEq, Int.reduceBNe, Int.reduceBEq, Nat.reduceLeDiff, q5]
    refine call_one (S := eqSpecRw) rfl _ GaL.rfl ⟨[⟨1, 2020, 1, 100, 5010, -5⟩], [⟨1, 2020, 1, 100, 5010, -5⟩], by decide, rfl, fun b hb => ?_⟩
    rw [hb.2 rfl]
    simp -dsimp only [Vm.G, List.lookup, Nat.reduceAdd, Nat.reduceBEq, Int.reduceBNe, Int.reduceBEq, Nat.reduceLeDiff, q5]
    exact hq
theorem csvP_ok (s : List UInt8) : ∀ r ∈ (csvP s).1, r.ok := goP_ok _ _ _ _ (by simp)
theorem csvP_len (s : List UInt8) : ((csvP s).1).length ≤ s.length := by
  by_cases he : (csvP s).2.2 = 0
  · have h1 := csv_read he
    have h2 : (linesOf (csvP s).1).length ≤ s.length := by
      have := congrArg List.length h1
      unfold printP at this
      rw [List.length_append, List.length_cons] at this
      omega
    have h3 : ∀ l : List Rw, l.length ≤ (linesOf l).length := fun l => by
      induction l with
      | nil => exact Nat.zero_le _
      | cons r l ih =>
        have : linesOf (r :: l) = lineR r ++ 10 :: linesOf l := by unfold linesOf; rw [List.flatMap_cons]; simp
        rw [this, List.length_cons, List.length_append, List.length_cons]; omega
    exact Nat.le_trans (h3 _) h2
  · have h1 : (csvP s).1 = [] := (goP_err _ _ _ _ he).1
    rw [h1]; exact Nat.zero_le _
def cpSpec : Vm.Spec := fun args h Q => ∃ s : List UInt8, s.length ≤ 9223372036854775807 ∧ args = [strA s] ∧ Q (.v (.bool true)) h
set_option maxRecDepth 20000 in
set_option maxHeartbeats 4000000 in
theorem does_cp : Does Tryd.prog 3 cpSpec := by
  refine does_of_awp (good_cons does_awake49 (good_cons does_csvP (good_cons does_csvR (good_cons does_own (good_cons does_sameR good_nil))))) Tryd.func3 rfl (by decide +kernel) (by decide +kernel) ?_
  rintro args h Q ⟨s, hl, rfl, hq⟩
  refine ⟨by simp [Tryd.f3], ?_⟩
  rw [awpFunc_some (by rfl)]
  have hsz := sz_mk s
  simp only [strA]
  simp -dsimp only [Vm.G, List.lookup, Nat.reduceAdd, Nat.reduceBEq, Int.reduceBNe, Int.reduceBEq, Nat.reduceLeDiff, q3, hsz]
  by_cases hlong : s.length > 3000
  · have c1 : decide (((s.length : Nat) : Int) > 3000) = true := decide_eq_true (by omega)
    simp -dsimp only [Vm.G, List.lookup, Nat.reduceAdd, Nat.reduceBEq, Int.reduceBNe, Int.reduceBEq, Nat.reduceLeDiff, q3, c1]
    refine call_one (S := yesSpec49) rfl _ GaL.rfl ⟨rfl, ?_⟩
    simp -dsimp only [Vm.G, List.lookup, Nat.reduceAdd, Nat.reduceBEq, Int.reduceBNe, Int.reduceBEq, Nat.reduceLeDiff, q3]
    exact hq
  · have c1 : decide (((s.length : Nat) : Int) > 3000) = false := decide_eq_false (by omega)
    have hsm := csv_same s
    have hxl := csvP_len s
    simp -dsimp only [Vm.G, List.lookup, Nat.reduceAdd, Nat.reduceBEq, Int.reduceBNe, Int.reduceBEq, Nat.reduceLeDiff, q3, c1]
    refine call_one (S := csvSpec csvP) rfl _ GaL.rfl ⟨s, by omega, rfl, fun x hx => ?_⟩
    generalize csvP s = X at hx hxl hsm ⊢
    rcases X with ⟨xl, xn, xe⟩
    simp only [iv] at hx hxl ⊢
    rcases hx with rfl | ⟨rfl, rfl⟩
    · simp -dsimp only [Vm.G, List.lookup, Nat.reduceAdd, Nat.reduceBEq, Int.reduceBNe, Int.reduceBEq, Nat.reduceLeDiff, q3]
      refine call_one (S := csvSpec csvR) rfl _ GaL.rfl ⟨s, by omega, rfl, fun y hy => ?_⟩
      rw [← hsm] at hy ⊢
      simp only [iv] at hy ⊢
      rcases hy with rfl | ⟨rfl, rfl⟩
      · simp -dsimp only [Vm.G, List.lookup, Nat.reduceAdd, Nat.reduceBEq, Int.reduceBNe, Int.reduceBEq, Nat.reduceLeDiff, q3]
        refine call_one (S := ownSpec) rfl _ GaL.rfl ⟨xl, by omega, rfl, ?_⟩
        simp -dsimp only [Vm.G, List.lookup, Nat.reduceAdd, Nat.reduceBEq, Int.reduceBNe, Int.reduceBEq, Nat.reduceLeDiff, q3]
        refine call_one (S := sameRSpec) rfl _ GaL.rfl ⟨xl, xl, rfl, by omega, fun _ => ?_, fun hne => absurd rfl hne⟩
        have k1 : (xn == xn) = true := by simp
        have k2 : (xe == xe) = true := by simp
        simp -dsimp only [Vm.G, List.lookup, Nat.reduceAdd, Nat.reduceBEq, Int.reduceBNe, Int.reduceBEq, Nat.reduceLeDiff, q3, k1, k2]
        refine call_one (S := yesSpec49) rfl _ GaL.rfl ⟨rfl, ?_⟩
        simp -dsimp only [Vm.G, List.lookup, Nat.reduceAdd, Nat.reduceBEq, Int.reduceBNe, Int.reduceBEq, Nat.reduceLeDiff, q3]
        exact hq
      · simp -dsimp only [Vm.G, List.lookup, Nat.reduceAdd, Nat.reduceBEq, Int.reduceBNe, Int.reduceBEq, Nat.reduceLeDiff, q3]
        refine call_one (S := ownSpec) rfl _ GaL.rfl ⟨[], by simp, rfl, ?_⟩
        simp -dsimp only [Vm.G, List.lookup, Nat.reduceAdd, Nat.reduceBEq, Int.reduceBNe, Int.reduceBEq, Nat.reduceLeDiff, q3]
        refine call_one (S := sameRSpec) rfl _ (.cons (.refl _) (.cons (.nil 6) .nil)) ⟨[], [], rfl, by simp, fun _ => ?_, fun hne => absurd rfl hne⟩
        have k1 : (xn == xn) = true := by simp
        have k2 : (xe == xe) = true := by simp
        simp -dsimp only [Vm.G, List.lookup, Nat.reduceAdd, Nat.reduceBEq, Int.reduceBNe, Int.reduceBEq, Nat.reduceLeDiff, q3, k1, k2]
        refine call_one (S := yesSpec49) rfl _ GaL.rfl ⟨rfl, ?_⟩
        simp -dsimp only [Vm.G, List.lookup, Nat.reduceAdd, Nat.reduceBEq, Int.reduceBNe, Int.reduceBEq, Nat.reduceLeDiff, q3]
        exact hq
    · simp -dsimp only [Vm.G, List.lookup, Nat.reduceAdd, Nat.reduceBEq, Int.reduceBNe, Int.reduceBEq, Nat.reduceLeDiff, q3]
      refine call_one (S := csvSpec csvR) rfl _ GaL.rfl ⟨s, by omega, rfl, fun y hy => ?_⟩
      rw [← hsm] at hy ⊢
      simp only [iv] at hy ⊢
      rcases hy with rfl | ⟨-, rfl⟩
      · simp -dsimp only [Vm.G, List.lookup, Nat.reduceAdd, Nat.reduceBEq, Int.reduceBNe, Int.reduceBEq, Nat.reduceLeDiff, q3]
        refine call_one (S := ownSpec) rfl _ (.cons (.nil 6) .nil) ⟨[], by simp, rfl, ?_⟩
        simp -dsimp only [Vm.G, List.lookup, Nat.reduceAdd, Nat.reduceBEq, Int.reduceBNe, Int.reduceBEq, Nat.reduceLeDiff, q3]
        refine call_one (S := sameRSpec) rfl _ GaL.rfl ⟨[], [], rfl, by simp, fun _ => ?_, fun hne => absurd rfl hne⟩
        have k1 : (xn == xn) = true := by simp
        have k2 : (xe == xe) = true := by simp
        simp -dsimp only [Vm.G, List.lookup, Nat.reduceAdd, Nat.reduceBEq, Int.reduceBNe, Int.reduceBEq, Nat.reduceLeDiff, q3, k1, k2]
        refine call_one (S := yesSpec49) rfl _ GaL.rfl ⟨rfl, ?_⟩
        simp -dsimp only [Vm.G, List.lookup, Nat.reduceAdd, Nat.reduceBEq, Int.reduceBNe, Int.reduceBEq, Nat.reduceLeDiff, q3]
        exact hq
      · simp -dsimp only [Vm.G, List.lookup, Nat.reduceAdd, Nat.reduceBEq, Int.reduceBNe, Int.reduceBEq, Nat.reduceLeDiff, q3]
        refine call_one (S := ownSpec) rfl _ (.cons (.nil 6) .nil) ⟨[], by simp, rfl, ?_⟩
        simp -dsimp only [Vm.G, List.lookup, Nat.reduceAdd, Nat.reduceBEq, Int.reduceBNe, Int.reduceBEq, Nat.reduceLeDiff, q3]
        refine call_one (S := sameRSpec) rfl _ (.cons (.refl _) (.cons (.nil 6) .nil)) ⟨[], [], rfl, by simp, fun _ => ?_, fun hne => absurd rfl hne⟩
        have k1 : (xn == xn) = true := by simp
        have k2 : (xe == xe) = true := by simp
        simp -dsimp only [Vm.G, List.lookup, Nat.reduceAdd, Nat.reduceBEq, Int.reduceBNe, Int.reduceBEq, Nat.reduceLeDiff, q3, k1, k2]
        refine call_one (S := yesSpec49) rfl _ GaL.rfl ⟨rfl, ?_⟩
        simp -dsimp only [Vm.G, List.lookup, Nat.reduceAdd, Nat.reduceBEq, Int.reduceBNe, Int.reduceBEq, Nat.reduceLeDiff, q3]
        exact hq
def cbSpec : Vm.Spec := fun args h Q => ∃ (rows : List Rw) (s : List UInt8), s.length ≤ 9223372036854775807 ∧ rows.length ≤ 9223372036854775807 ∧ (∀ r ∈ rows, r.ok) ∧ args = [.sl 6 (rows.map rwAv), strA s] ∧ Q (.v (.bool true)) h
theorem print_len {l : List Rw} (hl : ∀ r ∈ l, r.ok) : (printP l).length ≤ 32 + 127 * l.length := by
  have h : ∀ l : List Rw, (∀ r ∈ l, r.ok) → (linesOf l).length ≤ 127 * l.length := fun l => by
    induction l with
    | nil => intro _; exact Nat.zero_le _
    | cons r l ih =>
      intro hl
      have h1 := ih fun r hr => hl r (List.mem_cons_of_mem _ hr)
      have h2 : (lineR r).length ≤ 21 * (r.nums.map textN).length := joinC_len _ (texts_le (nums_ok (hl r (by simp))))
      rw [List.length_map, nums_len] at h2
      have : linesOf (r :: l) = lineR r ++ 10 :: linesOf l := by unfold linesOf; rw [List.flatMap_cons]; simp
      rw [this, List.length_cons, List.length_append, List.length_cons]; omega
  have := h l hl
  unfold printP
  rw [List.length_append, List.length_cons]
  have : headB.length = 31 := rfl
  omega
set_option maxRecDepth 20000 in
set_option maxHeartbeats 4000000 in
theorem does_cb : Does Tryd.prog 4 cbSpec := by
  refine does_of_awp (good_cons does_awake49 (good_cons does_csvP (good_cons does_print (good_cons does_eqRw good_nil)))) Tryd.func4 rfl (by decide +kernel) (by decide +kernel) ?_
  rintro args h Q ⟨rows, s, hl, hrl, hok, rfl, hq⟩
  refine ⟨by simp [Tryd.f4], ?_⟩
  rw [awpFunc_some (by rfl)]
  have hsz := sz_mk s
  simp only [strA]
  simp -dsimp only [Vm.G, List.lookup, Nat.reduceAdd, Nat.reduceBEq, Int.reduceBNe, Int.reduceBEq, Nat.reduceLeDiff, q4]
  by_cases hr40 : rows.length > 40
  · have c1 : decide (((rows.length : Nat) : Int) > 40) = true := decide_eq_true (by omega)
    simp -dsimp only [Vm.G, List.lookup, Nat.reduceAdd, Nat.reduceBEq, Int.reduceBNe, Int.reduceBEq, Nat.reduceLeDiff, q4, c1]
    refine call_one (S := yesSpec49) rfl _ GaL.rfl ⟨rfl, ?_⟩
    simp -dsimp only [Vm.G, List.lookup, Nat.reduceAdd, Nat.reduceBEq, Int.reduceBNe, Int.reduceBEq, Nat.reduceLeDiff, q4]
    exact hq
  · have c1 : decide (((rows.length : Nat) : Int) > 40) = false := decide_eq_false (by omega)
    simp -dsimp only [Vm.G, List.lookup, Nat.reduceAdd, Nat.reduceBEq, Int.reduceBNe, Int.reduceBEq, Nat.reduceLeDiff, q4, c1, hsz]
    by_cases hlong : s.length > 3000
    · have c2 : decide (((s.length : Nat) : Int) > 3000) = true := decide_eq_true (by omega)
      simp -dsimp only [Vm.G, List.lookup, Nat.reduceAdd, Nat.reduceBEq, Int.reduceBNe, Int.reduceBEq, Nat.reduceLeDiff, q4, c2]
      refine call_one (S := yesSpec49) rfl _ GaL.rfl ⟨rfl, ?_⟩
      simp -dsimp only [Vm.G, List.lookup, Nat.reduceAdd, Nat.reduceBEq, Int.reduceBNe, Int.reduceBEq, Nat.reduceLeDiff, q4]
      exact hq
    · have c2 : decide (((s.length : Nat) : Int) > 3000) = false := decide_eq_false (by omega)
      have hpl := print_len hok
      have hcb := csv_back hok
      simp -dsimp only [Vm.G, List.lookup, Nat.reduceAdd, Nat.reduceBEq, Int.reduceBNe, Int.reduceBEq, Nat.reduceLeDiff, q4, c2]
      refine call_one (S := prSpec) rfl _ GaL.rfl ⟨rows, by omega, hok, by omega, rfl, ?_⟩
      simp only [strA]
      simp -dsimp only [Vm.G, List.lookup, Nat.reduceAdd, Nat.reduceBEq, Int.reduceBNe, Int.reduceBEq, Nat.reduceLeDiff, q4]
      refine call_one (S := csvSpec csvP) rfl _ GaL.rfl ⟨printP rows, by omega, rfl, fun x hx => ?_⟩
      rw [hcb] at hx ⊢
      simp only [iv] at hx ⊢
      have heq : ∀ {K : AV → Heap → Prop}, (∀ b : Bool, (b = true ↔ rows = rows) → K (.v (.bool b)) h) → K (.v (.bool true)) h := fun hK => hK true ⟨fun _ => rfl, fun _ => rfl⟩
      rcases hx with rfl | ⟨rfl, rfl⟩
      · simp -dsimp only [Vm.G, List.lookup, Nat.reduceAdd, Nat.reduceBEq, Int.reduceBNe, Int.reduceBEq, Nat.reduceLeDiff, q4]
        refine call_one (S := eqSpecRw) rfl _ GaL.rfl ⟨rows, rows, by omega, rfl, fun b hb => ?_⟩
        rw [hb.2 rfl]
        simp -dsimp only [Vm.G, List.lookup, Nat.reduceAdd, Nat.reduceBEq, Int.reduceBNe, Int.reduceBEq, Nat.reduceLeDiff, q4]
        refine call_one (S := csvSpec csvP) rfl _ GaL.rfl ⟨s, by omega, rfl, fun y hy => ?_⟩
        have hread := csv_read (s := s)
        have herr := goP_err (s.length + 1) 0 s []
        have hyok := csvP_ok s
        have hyl := csvP_len s
        have herr : (csvP s).2.2 ≠ 0 → (csvP s).1 = [] ∧ 0 < (csvP s).2.1 ∧ (csvP s).2.2 = 4 := herr
        generalize csvP s = Y at hy hread herr hyok hyl ⊢
        rcases Y with ⟨yl, yn, ye⟩
        simp only [iv] at hy hread herr hyok hyl ⊢
        by_cases he : ye = 0
        · have hr := hread he
          subst he
          have k1 : ((0 : Int) != 0) = false := rfl
          have k2 : ((0 : Int) == 0) = true := rfl
          have k3 : (s == s) = true := by simp
          rcases hy with rfl | ⟨rfl, rfl⟩
          · simp -dsimp only [Vm.G, List.lookup, Nat.reduceAdd, Nat.reduceBEq, Int.reduceBNe, Int.reduceBEq, Nat.reduceLeDiff, q4, k1, k2]
            refine call_one (S := prSpec) rfl _ GaL.rfl ⟨yl, by omega, hyok, by rw [hr]; omega, rfl, ?_⟩
            rw [hr]
            simp only [strA]
            simp -dsimp only [Vm.G, List.lookup, Nat.reduceAdd, Nat.reduceBEq, Int.reduceBNe, Int.reduceBEq, Nat.reduceLeDiff, q4, str_eql, toList_mk, k3]
            refine call_one (S := yesSpec49) rfl _ GaL.rfl ⟨rfl, ?_⟩
            simp -dsimp only [Vm.G, List.lookup, Nat.reduceAdd, Nat.reduceBEq, Int.reduceBNe, Int.reduceBEq, Nat.reduceLeDiff, q4]
            exact hq
          · simp -dsimp only [Vm.G, List.lookup, Nat.reduceAdd, Nat.reduceBEq, Int.reduceBNe, Int.reduceBEq, Nat.reduceLeDiff, q4, k1, k2]
            refine call_one (S := prSpec) rfl _ (.cons (.nil 6) .nil) ⟨[], by simp, by simp, by rw [hr]; omega, rfl, ?_⟩
            rw [hr]
            simp only [strA]
            simp -dsimp only [Vm.G, List.lookup, Nat.reduceAdd, Nat.reduceBEq, Int.reduceBNe, Int.reduceBEq, Nat.reduceLeDiff, q4, str_eql, toList_mk, k3]
            refine call_one (S := yesSpec49) rfl _ GaL.rfl ⟨rfl, ?_⟩
            simp -dsimp only [Vm.G, List.lookup, Nat.reduceAdd, Nat.reduceBEq, Int.reduceBNe, Int.reduceBEq, Nat.reduceLeDiff, q4]
            exact hq
        · have hr := herr he
          rcases hr with ⟨rfl, hn, rfl⟩
          have k1 : ((4 : Int) != 0) = true := rfl
          have k2 : ((4 : Int) == 0) = false := rfl
          have k4 : decide (yn > 0) = true := decide_eq_true hn
          have k6 : (((0 : Nat) : Int) == 0) = true := rfl
          rcases hy with rfl | ⟨-, rfl⟩
          · simp -dsimp only [Vm.G, List.lookup, Nat.reduceAdd, Nat.reduceBEq, Int.reduceBNe, Int.reduceBEq, Nat.reduceLeDiff, q4, k1, k4, k6, List.map_nil, List.length_nil]
            try simp -dsimp only [Vm.G, List.lookup, Nat.reduceAdd, Nat.reduceBEq, Int.reduceBNe, Int.reduceBEq, Nat.reduceLeDiff, q4, k2, k4, k6]
            refine call_one (S := yesSpec49) rfl _ GaL.rfl ⟨rfl, ?_⟩
            simp -dsimp only [Vm.G, List.lookup, Nat.reduceAdd, Nat.reduceBEq, Int.reduceBNe, Int.reduceBEq, Nat.reduceLeDiff, q4]
            exact hq
          · simp -dsimp only [Vm.G, List.lookup, Nat.reduceAdd, Nat.reduceBEq, Int.reduceBNe, Int.reduceBEq, Nat.reduceLeDiff, q4, k1, k4]
            try simp -dsimp only [Vm.G, List.lookup, Nat.reduceAdd, Nat.reduceBEq, Int.reduceBNe, Int.reduceBEq, Nat.reduceLeDiff, q4, k2, k4]
            refine call_one (S := yesSpec49) rfl _ GaL.rfl ⟨rfl, ?_⟩
            simp -dsimp only [Vm.G, List.lookup, Nat.reduceAdd, Nat.reduceBEq, Int.reduceBNe, Int.reduceBEq, Nat.reduceLeDiff, q4]
            exact hq
      · simp -dsimp only [Vm.G, List.lookup, Nat.reduceAdd, Nat.reduceBEq, Int.reduceBNe, Int.reduceBEq, Nat.reduceLeDiff, q4]
        refine call_one (S := eqSpecRw) rfl _ (.cons (.nil 6) (.cons (.refl _) .nil)) ⟨[], [], by simp, rfl, fun b hb => ?_⟩
        rw [hb.2 rfl]
        simp -dsimp only [Vm.G, List.lookup, Nat.reduceAdd, Nat.reduceBEq, Int.reduceBNe, Int.reduceBEq, Nat.reduceLeDiff, q4]
        refine call_one (S := csvSpec csvP) rfl _ GaL.rfl ⟨s, by omega, rfl, fun y hy => ?_⟩
        have hread := csv_read (s := s)
        have herr := goP_err (s.length + 1) 0 s []
        have hyok := csvP_ok s
        have hyl := csvP_len s
        have herr : (csvP s).2.2 ≠ 0 → (csvP s).1 = [] ∧ 0 < (csvP s).2.1 ∧ (csvP s).2.2 = 4 := herr
        generalize csvP s = Y at hy hread herr hyok hyl ⊢
        rcases Y with ⟨yl, yn, ye⟩
        simp only [iv] at hy hread herr hyok hyl ⊢
        by_cases he : ye = 0
        · have hr := hread he
          subst he
          have k1 : ((0 : Int) != 0) = false := rfl
          have k2 : ((0 : Int) == 0) = true := rfl
          have k3 : (s == s) = true := by simp
          rcases hy with rfl | ⟨rfl, rfl⟩
          · simp -dsimp only [Vm.G, List.lookup, Nat.reduceAdd, Nat.reduceBEq, Int.reduceBNe, Int.reduceBEq, Nat.reduceLeDiff, q4, k1, k2]
            refine call_one (S := prSpec) rfl _ GaL.rfl ⟨yl, by omega, hyok, by rw [hr]; omega, rfl, ?_⟩
            rw [hr]
            simp only [strA]
            simp -dsimp only [Vm.G, List.lookup, Nat.reduceAdd, Nat.reduceBEq, Int.reduceBNe, Int.reduceBEq, Nat.reduceLeDiff, q4, str_eql, toList_mk, k3]
            refine call_one (S := yesSpec49) rfl _ GaL.rfl ⟨rfl, ?_⟩
            simp -dsimp only [Vm.G, List.lookup, Nat.reduceAdd, Nat.reduceBEq, Int.reduceBNe, Int.reduceBEq, Nat.reduceLeDiff, q4]
            exact hq
          · simp -dsimp only [Vm.G, List.lookup, Nat.reduceAdd, Nat.reduceBEq, Int.reduceBNe, Int.reduceBEq, Nat.reduceLeDiff, q4, k1, k2]
            refine call_one (S := prSpec) rfl _ (.cons (.nil 6) .nil) ⟨[], by simp, by simp, by rw [hr]; omega, rfl, ?_⟩
            rw [hr]
            simp only [strA]
            simp -dsimp only [Vm.G, List.lookup, Nat.reduceAdd, Nat.reduceBEq, Int.reduceBNe, Int.reduceBEq, Nat.reduceLeDiff, q4, str_eql, toList_mk, k3]
            refine call_one (S := yesSpec49) rfl _ GaL.rfl ⟨rfl, ?_⟩
            simp -dsimp only [Vm.G, List.lookup, Nat.reduceAdd, Nat.reduceBEq, Int.reduceBNe, Int.reduceBEq, Nat.reduceLeDiff, q4]
            exact hq
        · have hr := herr he
          rcases hr with ⟨rfl, hn, rfl⟩
          have k1 : ((4 : Int) != 0) = true := rfl
          have k2 : ((4 : Int) == 0) = false := rfl
          have k4 : decide (yn > 0) = true := decide_eq_true hn
          have k6 : (((0 : Nat) : Int) == 0) = true := rfl
          rcases hy with rfl | ⟨-, rfl⟩
          · simp -dsimp only [Vm.G, List.lookup, Nat.reduceAdd, Nat.reduceBEq, Int.reduceBNe, Int.reduceBEq, Nat.reduceLeDiff, q4, k1, k4, k6, List.map_nil, List.length_nil]
            try simp -dsimp only [Vm.G, List.lookup, Nat.reduceAdd, Nat.reduceBEq, Int.reduceBNe, Int.reduceBEq, Nat.reduceLeDiff, q4, k2, k4, k6]
            refine call_one (S := yesSpec49) rfl _ GaL.rfl ⟨rfl, ?_⟩
            simp -dsimp only [Vm.G, List.lookup, Nat.reduceAdd, Nat.reduceBEq, Int.reduceBNe, Int.reduceBEq, Nat.reduceLeDiff, q4]
            exact hq
          · simp -dsimp only [Vm.G, List.lookup, Nat.reduceAdd, Nat.reduceBEq, Int.reduceBNe, Int.reduceBEq, Nat.reduceLeDiff, q4, k1, k4]
            try simp -dsimp only [Vm.G, List.lookup, Nat.reduceAdd, Nat.reduceBEq, Int.reduceBNe, Int.reduceBEq, Nat.reduceLeDiff, q4, k2, k4]
            refine call_one (S := yesSpec49) rfl _ GaL.rfl ⟨rfl, ?_⟩
            simp -dsimp only [Vm.G, List.lookup, Nat.reduceAdd, Nat.reduceBEq, Int.reduceBNe, Int.reduceBEq, Nat.reduceLeDiff, q4]
            exact hq
end Go.Proofs.Lx
