/- Plain laws of tapes: what was appended is read; what is cut, or torn. -/
import Derived.Test.YtfejonkjfeedcaaDoorTapeN
set_option linter.unusedSimpArgs false
set_option linter.unusedVariables false
namespace Go.Proofs
open Go.Vm

theorem reads_fuel : ∀ (f f' : Nat) (r : List UInt8), r.length ≤ f → r.length ≤ f' → reads f r = reads f' r
  | 0, f', r, h, _ => by
    have : r = [] := List.eq_nil_of_length_eq_zero (by omega)
    subst this; rw [reads_nil, reads_nil]
  | f + 1, 0, r, _, h => by
    have : r = [] := List.eq_nil_of_length_eq_zero (by omega)
    subst this; rw [reads_nil, reads_nil]
  | f + 1, f' + 1, r, h, h' => by
    simp only [reads]
    cases hn : nextP r with
    | none => rfl
    | some b =>
      have := nextP_len hn
      simp only
      rw [reads_fuel f f' (r.drop (b.length + 6)) (by simp; omega) (by simp; omega)]

theorem readOf_some {r b : List UInt8} (h : nextP r = some b) : readOf r = b :: readOf (r.drop (b.length + 6)) := by
  have hl := nextP_len h
  unfold readOf
  cases hr : r.length with
  | zero => omega
  | succ f =>
    simp only [reads, h]
    rw [reads_fuel f _ _ (by simp; omega) (Nat.le_refl _)]
theorem readOf_none {r : List UInt8} (h : nextP r = none) : readOf r = [] := by
  unfold readOf
  cases hr : r.length with
  | zero => rfl
  | succ f => simp [reads, h]

theorem getStep_nat (x : BitVec 64) (c : UInt8) (h : x.toNat < 2 ^ 56) : (getStep x c).toNat = x.toNat * 256 + c.toNat := by
  have hc := c.toNat_lt
  unfold getStep
  rw [BitVec.toNat_or, BitVec.toNat_shiftLeft, BitVec.toNat_ofNat, Nat.mod_eq_of_lt (by omega : c.toNat < 2 ^ 64), Nat.shiftLeft_eq, Nat.mod_eq_of_lt (by omega)]
  have := Nat.shiftLeft_add_eq_or_of_lt (i := 8) (b := c.toNat) (by omega) x.toNat
  rw [Nat.shiftLeft_eq] at this
  omega
theorem byteOf_nat' (n j : Nat) : (byteOf n j).toNat = n / 2 ^ (8 * j) % 256 := by
  have h := byteOf_nat (n : Int) j
  have e : ((n : Int) / 2 ^ (8 * j)) % 256 = ((n / 2 ^ (8 * j) % 256 : Nat) : Int) := by
    have : (2 : Int) ^ (8 * j) = ((2 ^ (8 * j) : Nat) : Int) := by simp
    rw [this, ← Int.natCast_ediv]
    rfl
  rw [e] at h
  exact_mod_cast h
theorem getOf_be2 {n : Nat} (hn : n ≤ 65535) : (getOf (be 2 n)).toNat = n := by
  have e : be 2 n = [byteOf n 1, byteOf n 0] := rfl
  have h1 := byteOf_nat' n 1
  have h0 := byteOf_nat' n 0
  rw [e]
  simp only [getOf, List.foldl_cons, List.foldl_nil]
  have z : (getStep 0#64 (byteOf n 1)).toNat = (byteOf n 1).toNat := by rw [getStep_nat _ _ (by decide)]; simp
  rw [getStep_nat _ _ (by rw [z, h1]; omega), z, h1, h0]
  simp only [Nat.mul_one, Nat.mul_zero, Nat.pow_zero, Nat.div_one]
  omega

theorem be_len (k : Nat) (n : Int) : (be k n).length = k := by simp [be]

theorem nextP_piece {b : List UInt8} (hb : b.length ≤ 65535) (r : List UInt8) : nextP (pieceOf b ++ r) = some b := by
  have hpl := piece_len b
  have h2 : (pieceOf b ++ r).take 2 = be 2 b.length := by
    simp only [pieceOf, List.append_assoc]
    exact List.take_left' (be_len 2 _)
  have hd : (pieceOf b ++ r).drop 2 = b ++ (be 4 (crcOf (be 2 b.length ++ b)).toNat ++ r) := by
    simp only [pieceOf, List.append_assoc]
    exact List.drop_left' (be_len 2 _)
  unfold nextP
  rw [h2, getOf_be2 hb, hd]
  simp only [List.length_append]
  rw [if_neg (by omega), if_neg (by omega), List.take_left' rfl, if_pos]
  exact (List.take_left' hpl).symm

theorem readOf_piece {b : List UInt8} (hb : b.length ≤ 65535) (r : List UInt8) : readOf (pieceOf b ++ r) = b :: readOf r := by
  rw [readOf_some (nextP_piece hb r), List.drop_left' (piece_len b)]

def pieces (l : List (List UInt8)) : List UInt8 := l.flatMap pieceOf
theorem pieces_len (l : List (List UInt8)) : (pieces l).length = endOf l := by
  induction l with
  | nil => rfl
  | cons b l ih =>
    have e : pieces (b :: l) = pieceOf b ++ pieces l := rfl
    rw [e, List.length_append, ih, piece_len]
    simp [endOf]
theorem pieces_snoc (l : List (List UInt8)) (b : List UInt8) : pieces (l ++ [b]) = pieces l ++ pieceOf b := by simp [pieces]

theorem readOf_pieces (l : List (List UInt8)) (hl : ∀ b ∈ l, b.length ≤ 65535) (r : List UInt8) : readOf (pieces l ++ r) = l ++ readOf r := by
  induction l with
  | nil => rfl
  | cons b l ih =>
    have e : pieces (b :: l) ++ r = pieceOf b ++ (pieces l ++ r) := by simp [pieces]
    rw [e, readOf_piece (hl b (List.mem_cons_self ..)), ih fun c hc => hl c (List.mem_cons_of_mem _ hc)]
    rfl

/-- What is read is what stands there. -/
theorem take_end : ∀ (f : Nat) (r : List UInt8), r.length ≤ f → r.take (endOf (readOf r)) = pieces (readOf r) ∧ (∀ b ∈ readOf r, b.length ≤ 65535) ∧ endOf (readOf r) ≤ r.length
  | 0, r, h => by
    have : r = [] := List.eq_nil_of_length_eq_zero (by omega)
    subst this; simp [readOf, reads, endOf, pieces]
  | f + 1, r, h => by
    cases hn : nextP r with
    | none => rw [readOf_none hn]; simp [endOf, pieces]
    | some b =>
      obtain ⟨h1, h2, h3, h4, h5⟩ := nextP_some hn
      obtain ⟨i1, i2, i3⟩ := take_end f (r.drop (b.length + 6)) (by simp; omega)
      rw [readOf_some hn]
      have e1 : endOf (b :: readOf (r.drop (b.length + 6))) = (b.length + 6) + endOf (readOf (r.drop (b.length + 6))) := by simp [endOf]
      have e2 : pieces (b :: readOf (r.drop (b.length + 6))) = pieceOf b ++ pieces (readOf (r.drop (b.length + 6))) := rfl
      have hp : pieceOf b = r.take (b.length + 6) := by
        have := List.prefix_iff_eq_take.1 (List.isPrefixOf_iff_prefix.1 h4)
        rw [piece_len] at this
        exact this
      refine ⟨?_, fun c hc => ?_, ?_⟩
      · rw [e1, e2, List.take_add, i1, ← hp]
      · rcases List.mem_cons.1 hc with rfl | hc
        · exact h5
        · exact i2 c hc
      · rw [e1]; simp at i3; omega

theorem readOf_cut (t : List UInt8) : readOf (t.take (endOf (readOf t))) = readOf t := by
  obtain ⟨h1, h2, -⟩ := take_end t.length t (Nat.le_refl _)
  rw [h1]
  have := readOf_pieces (readOf t) h2 []
  rw [List.append_nil] at this
  rw [this]
  simp [readOf, reads]

/-- How many pieces are whole within so many bytes. -/
def wholes (l : List (List UInt8)) (cut : Nat) : Nat := match l with
  | [] => 0
  | b :: l => if b.length + 6 ≤ cut then wholes l (cut - (b.length + 6)) + 1 else 0

theorem readOf_torn : ∀ (l : List (List UInt8)) (cut : Nat), (∀ b ∈ l, b.length ≤ 65535) → cut ≤ (pieces l).length → readOf ((pieces l).take cut) = l.take (wholes l cut)
  | [], cut, _, _ => by simp [pieces, wholes, readOf, reads]
  | b :: l, cut, hl, hc => by
    have e : pieces (b :: l) = pieceOf b ++ pieces l := rfl
    have hb := hl b (List.mem_cons_self ..)
    have hpl := piece_len b
    rw [e] at hc ⊢
    unfold wholes
    by_cases h : b.length + 6 ≤ cut
    · rw [if_pos h, List.take_append, List.take_of_length_le (by omega), readOf_piece hb, hpl,
        readOf_torn l _ (fun c hc => hl c (List.mem_cons_of_mem _ hc)) (by rw [List.length_append] at hc; omega)]
      rfl
    · rw [if_neg h, List.take_append_of_le_length (by omega)]
      refine readOf_none ?_
      have hlen : ((pieceOf b).take cut).length = cut := by simp; omega
      unfold nextP
      rw [hlen]
      by_cases h2 : cut < 2
      · rw [if_pos h2]
      · rw [if_neg h2]
        have e2 : ((pieceOf b).take cut).take 2 = be 2 b.length := by
          rw [List.take_take, Nat.min_eq_left (by omega)]
          simp only [pieceOf, List.append_assoc]
          exact List.take_left' (be_len 2 _)
        simp only
        rw [e2, getOf_be2 hb, if_pos (by omega)]

end Go.Proofs
