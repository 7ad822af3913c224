/- Ranks of floats, in plain words: the document's order is the order of ranks; Unrank undoes Rank. No program in sight. -/
import Derived.Test.YtnfdalfnbjencaaFloatPlain
import Derived.Laws.BitsAllLaws
import Derived.RowKit
namespace Go.Proofs.Ytnfdalfnbjencaa.Fl
open Ieee

def nanRank : Nat := 18444492273895866369
def nanBits : Nat := 9221120237041090561
def all1 : Nat := 18446744073709551615
def full : Nat := 18446744073709551616

def below (b : Nat) : Bool := decide (big ≤ b)
def rank (b : Nat) : Nat := if isNaN b then nanRank else if below b then all1 - b else b + big
def less (a b : Nat) : Bool :=
  if isNaN a || isNaN b then !isNaN a && isNaN b
  else if key a = 0 ∧ key b = 0 then below a && !below b
  else decide (key a < key b)
def same (a b : Nat) : Bool := !less a b && !less b a
/-- The bits that a rank stands for, whatever they are. -/
def bitsOf (n : Nat) : Nat := if big ≤ n then n - big else all1 - n
def unrank (n : Nat) : Nat × Bool := if n = nanRank then (nanBits, true) else if isNaN (bitsOf n) then (0, false) else (bitsOf n, true)

theorem rank_lt (b : Nat) (hb : b < full) : rank b < full := by
  unfold rank below isNaN full all1 big nanRank top at *
  simp only [decide_eq_true_eq]
  split
  · omega
  · split <;> omega

theorem less_rank (a b : Nat) (ha : a < full) (hb : b < full) : less a b = decide (rank a < rank b) := by
  unfold less rank
  by_cases na : isNaN a <;> by_cases nb : isNaN b
  · simp [na, nb]
  · have : ¬ nanRank < (if below b = true then all1 - b else b + big) := by
      unfold isNaN below full all1 big nanRank top at *
      simp only [decide_eq_true_eq] at *
      split <;> omega
    simp [na, nb, this]
  · have : (if below a = true then all1 - a else a + big) < nanRank := by
      unfold isNaN below full all1 big nanRank top at *
      simp only [decide_eq_true_eq] at *
      split <;> omega
    simp [na, nb, this]
  · simp only [na, nb, Bool.or_self, Bool.false_eq_true, if_false]
    unfold isNaN at na nb
    unfold key below full all1 big top at *
    simp only [decide_eq_true_eq] at *
    by_cases h1 : 9223372036854775808 ≤ a <;> by_cases h2 : 9223372036854775808 ≤ b <;> simp only [h1, h2, if_true, if_false, decide_true, decide_false, Bool.not_true, Bool.not_false, Bool.and_true, Bool.and_false] <;> (split <;> (first | (rw [eq_comm, decide_eq_true_eq]; omega) | (rw [eq_comm, decide_eq_false_iff_not]; omega) | (rw [decide_eq_decide]; omega)))

theorem same_rank (a b : Nat) (ha : a < full) (hb : b < full) : same a b = decide (rank a = rank b) := by
  unfold same
  rw [less_rank a b ha hb, less_rank b a hb ha, ← decide_not, ← decide_not, ← Bool.decide_and, decide_eq_decide]
  omega

theorem unrank_rank (b : Nat) (hb : b < full) : unrank (rank b) = (if isNaN b then nanBits else b, true) := by
  by_cases nb : isNaN b
  · simp [unrank, rank, nb]
  · have h1 : ¬ rank b = nanRank := by
      unfold rank
      rw [if_neg nb]
      unfold isNaN below full all1 big nanRank top at *
      simp only [decide_eq_true_eq] at *
      split <;> omega
    have h2 : bitsOf (rank b) = b := by
      unfold rank bitsOf
      rw [if_neg nb]
      unfold below full all1 big at *
      simp only [decide_eq_true_eq] at *
      split <;> split <;> omega
    simp [unrank, h1, h2, nb]

theorem nan_nan : isNaN nanBits = true := by decide
theorem bitsOf_lt (n : Nat) (hn : n < full) : bitsOf n < full := by unfold bitsOf full all1 big at *; split <;> omega
theorem unrank_lt (n : Nat) (hn : n < full) : (unrank n).1 < full := by
  unfold unrank
  split
  · decide
  · split
    · decide
    · exact bitsOf_lt n hn
theorem same_refl (a : Nat) (ha : a < full) : same a a = true := by rw [same_rank a a ha ha]; simp
theorem less_anti (a b : Nat) (ha : a < full) (hb : b < full) : (less a b && less b a) = false := by
  rw [less_rank a b ha hb, less_rank b a hb ha, ← Bool.decide_and, decide_eq_false_iff_not]; omega

/-- The document's own way to a rank's float. -/
theorem unrank_ref (n : Nat) : (if isNaN (bitsOf n) = true ∧ n ≠ nanRank then ((0 : Nat), false) else (bitsOf n, true)) = if n = nanRank then (bitsOf nanRank, true) else unrank n := by
  unfold unrank
  by_cases h : n = nanRank
  · subst h; simp
  · simp [h]

/-! Comparisons and bits, as the walk spells them. -/
theorem fk : FloatKind.f64.format = double := rfl
theorem cmp_eq (a b : Nat) (ha : a < full) (hb : b < full) : (FloatKind.f64.format.order a b == some .eq) = (!isNaN a && !isNaN b && decide (key a = key b)) := by
  rw [fk]
  cases na : isNaN a
  · cases nb : isNaN b
    · rw [order_num a b ha hb na nb]
      simp only [compare, compareOfLessAndEq]
      by_cases h1 : key a < key b
      · rw [if_pos h1]; simp; omega
      · rw [if_neg h1]
        by_cases h2 : key a = key b
        · rw [if_pos h2]; simp [h2]
        · rw [if_neg h2]; simp [h2]
    · rw [order_nan a b (Or.inr nb)]; simp
  · rw [order_nan a b (Or.inl na)]; simp
theorem cmp_lt (a b : Nat) (ha : a < full) (hb : b < full) : (FloatKind.f64.format.order a b == some .lt) = (!isNaN a && !isNaN b && decide (key a < key b)) := by
  rw [fk]
  cases na : isNaN a
  · cases nb : isNaN b
    · rw [order_num a b ha hb na nb]
      simp only [compare, compareOfLessAndEq]
      by_cases h1 : key a < key b
      · rw [if_pos h1]; simp [h1]
      · rw [if_neg h1]
        by_cases h2 : key a = key b
        · rw [if_pos h2]; simp [h2]
        · rw [if_neg h2]; simp; omega
    · rw [order_nan a b (Or.inr nb)]; simp
  · rw [order_nan a b (Or.inl na)]; simp
theorem cmp_self (a : Nat) (ha : a < full) : (FloatKind.f64.format.order a a != some .eq) = isNaN a := by
  rw [bne, cmp_eq a a ha ha]; cases isNaN a <;> simp
theorem key_zero : key 0 = 0 := by decide
theorem nan_zero : isNaN 0 = false := by decide

theorem and_big (b : Nat) (hb : b < full) : bits .and .u64 (b : Int) 9223372036854775808 = if below b then 9223372036854775808 else 0 := by
  have h := u64_and_nat b 9223372036854775808 hb (by decide)
  have e : b &&& 9223372036854775808 = if below b then 9223372036854775808 else 0 := by
    refine Nat.eq_of_testBit_eq fun i => ?_
    rw [show (9223372036854775808 : Nat) = 2 ^ 63 from rfl, Nat.testBit_and, Nat.testBit_two_pow]
    unfold below big full at *
    by_cases hi : 63 = i
    · subst hi
      rw [Nat.testBit_eq_decide_div_mod_eq]
      by_cases h1 : 9223372036854775808 ≤ b
      · have : b / 2 ^ 63 = 1 := by omega
        simp [this, h1]
        exact Nat.testBit_two_pow_self (n := 63)
      · have : b / 2 ^ 63 = 0 := by omega
        simp [this, h1]
    · by_cases h1 : 9223372036854775808 ≤ b
      · simp only [h1, decide_true, if_true, Nat.testBit_two_pow]
        simp [hi]
      · simp [hi, h1]
  rw [e] at h
  refine h.trans ?_
  split <;> rfl
theorem or_big (b : Nat) (hb : b < big) : bits .or .u64 (b : Int) 9223372036854775808 = ((b + big : Nat) : Int) := by
  have h := u64_or_nat b 9223372036854775808 (by unfold big at hb; omega) (by decide)
  refine h.trans ?_
  have : b ||| 9223372036854775808 = b + big := by
    rw [Nat.or_comm, Nat.add_comm, show (9223372036854775808 : Nat) = 2 ^ 63 * 1 from rfl, ← Nat.two_pow_add_eq_or_of_lt (i := 63) hb 1]
    rfl
  rw [this]
theorem not_u64 (b : Nat) (hb : b < full) : bits .xor .u64 18446744073709551615 (b : Int) = ((all1 - b : Nat) : Int) := by
  have h := u64_xor_nat 18446744073709551615 b (by decide) hb
  refine h.trans ?_
  have : 18446744073709551615 ^^^ b = all1 - b := by
    have e := BitVec.toNat_not (x := BitVec.ofNat 64 b)
    rw [← BitVec.allOnes_xor, BitVec.toNat_xor, BitVec.toNat_allOnes, BitVec.toNat_ofNat, Nat.mod_eq_of_lt (show b < 2 ^ 64 from hb)] at e
    exact e
  rw [this]
theorem andNot_big (b : Nat) (hb : b < full) : bits .andNot .u64 (b : Int) 9223372036854775808 = ((b % big : Nat) : Int) := by
  have h := u64_andNot_nat b 9223372036854775808 hb (by decide)
  refine h.trans ?_
  have : b &&& (18446744073709551615 - 9223372036854775808) = b % big := by
    rw [show 18446744073709551615 - 9223372036854775808 = 2 ^ 63 - 1 from rfl, Nat.and_two_pow_sub_one_eq_mod]
    rfl
  rw [this]

end Go.Proofs.Ytnfdalfnbjencaa.Fl
