/- Floats by their bits, in plain words: which of two doubles is less, by whole numbers alone. No program in sight. -/
import Ieee.Arith
namespace Go.Proofs.Ytnfdalfnbjencaa.Fl
open Ieee

/-- The rung of infinity. -/
def top : Nat := 9218868437227405312
def big : Nat := 9223372036854775808
def isNaN (b : Nat) : Bool := decide (top < b % big)
/-- The order's key of a float that is a number or an infinity. -/
def key (b : Nat) : Int := if big ≤ b then -((b % big : Nat) : Int) else ((b % big : Nat) : Int)

theorem dbl_binade : double.binade = 4503599627370496 := by decide
theorem dbl_inf : double.infRung = top := by decide
theorem dbl_sign : double.signWeight = big := by decide

/-- What a rung below infinity stands for, in units of the least place. -/
def mag (r : Nat) : Nat := if r < 4503599627370496 then r else 4503599627370496 + r % 4503599627370496
def up (r : Nat) : Nat := if r < 4503599627370496 then 0 else r / 4503599627370496 - 1
def val (r : Nat) : Nat := mag r * 2 ^ up r

theorem val_step (r : Nat) : val r < val (r + 1) := by
  unfold val mag up
  by_cases h1 : r + 1 < 4503599627370496
  · rw [if_pos (by omega), if_pos (by omega), if_pos h1, if_pos h1]; omega
  by_cases h2 : r < 4503599627370496
  · have : r = 4503599627370495 := by omega
    subst this
    decide
  rw [if_neg h2, if_neg h2, if_neg h1, if_neg h1]
  by_cases h3 : (r + 1) % 4503599627370496 = 0
  · have e1 : r % 4503599627370496 = 4503599627370495 := by omega
    have e2 : (r + 1) / 4503599627370496 - 1 = (r / 4503599627370496 - 1) + 1 := by omega
    rw [h3, e1, e2, Nat.pow_succ]
    have := Nat.two_pow_pos (r / 4503599627370496 - 1)
    generalize 2 ^ (r / 4503599627370496 - 1) = p at *
    omega
  · have e1 : (r + 1) % 4503599627370496 = r % 4503599627370496 + 1 := by omega
    have e2 : (r + 1) / 4503599627370496 = r / 4503599627370496 := by omega
    rw [e1, e2]
    have := Nat.two_pow_pos (r / 4503599627370496 - 1)
    exact Nat.mul_lt_mul_of_pos_right (by omega) this

theorem val_lt {r s : Nat} (h : r < s) : val r < val s := by
  induction s with
  | zero => omega
  | succ s ih =>
    by_cases e : r = s
    · subst e; exact val_step r
    · exact Nat.lt_trans (ih (by omega)) (val_step s)

theorem val_zero : val 0 = 0 := by decide

/-- What a word reads as. -/
theorem read_num (b : Nat) (hb : b < 18446744073709551616) (h : b % big < top) : double.read b = .number (decide (big ≤ b)) (mag (b % big)) (double.leastPlace + (up (b % big) : Nat)) := by
  have hs : (b / big % 2 == 1) = decide (big ≤ b) := by
    unfold big at *
    by_cases h1 : 9223372036854775808 ≤ b
    · have : b / 9223372036854775808 = 1 := by omega
      simp [this, h1]
    · have : b / 9223372036854775808 = 0 := by omega
      simp [this, h1]
  unfold Format.read
  rw [dbl_sign, dbl_binade, dbl_inf]
  simp only [hs]
  by_cases h1 : b % big < 4503599627370496
  · rw [if_pos h1]
    simp [mag, up, h1]
  · rw [if_neg h1, if_pos h]
    simp [mag, up, h1]

theorem read_inf (b : Nat) (hb : b < 18446744073709551616) (h : b % big = top) : double.read b = .infinity (decide (big ≤ b)) := by
  have hs : (b / big % 2 == 1) = decide (big ≤ b) := by
    unfold big at *
    by_cases h1 : 9223372036854775808 ≤ b
    · have : b / 9223372036854775808 = 1 := by omega
      simp [this, h1]
    · have : b / 9223372036854775808 = 0 := by omega
      simp [this, h1]
  unfold Format.read
  rw [dbl_sign, dbl_binade, dbl_inf]
  simp only [hs]
  rw [if_neg (by rw [h]; decide), if_neg (by omega), if_pos h]

theorem read_nan (b : Nat) (h : top < b % big) : ∃ s t, double.read b = .nan s t := by
  unfold Format.read
  rw [dbl_sign, dbl_binade, dbl_inf]
  have : 4503599627370496 ≤ top := by decide
  rw [if_neg (by omega), if_neg (by omega), if_neg (by omega)]
  exact ⟨_, _, rfl⟩

theorem signed_val (neg : Bool) (r : Nat) (k : Nat) : signed neg (mag r) (up r + k) = (if neg then -(val r : Int) else (val r : Int)) * (2 ^ k : Nat) := by
  unfold signed val
  rw [Nat.shiftLeft_eq, Nat.pow_add, ← Nat.mul_assoc]
  split
  · rw [Int.neg_mul]; congr 1
  · rfl

theorem compare_scale (x y : Int) (k : Nat) : compare (x * (2 ^ k : Nat)) (y * (2 ^ k : Nat)) = compare x y := by
  have hp : (0 : Int) < ((2 ^ k : Nat) : Int) := by have := Nat.two_pow_pos k; omega
  generalize ((2 ^ k : Nat) : Int) = p at hp
  rcases Int.lt_trichotomy x y with h | h | h
  · have h2 : x * p < y * p := Int.mul_lt_mul_of_pos_right h hp
    simp only [compare, compareOfLessAndEq]
    rw [if_pos h, if_pos h2]
  · subst h; simp [compare, compareOfLessAndEq]
  · have h2 : y * p < x * p := Int.mul_lt_mul_of_pos_right h hp
    simp only [compare, compareOfLessAndEq]
    rw [if_neg (by omega), if_neg (by omega), if_neg (by omega), if_neg (by omega)]

theorem cmp_int (x y x' y' : Int) (h1 : x < y ↔ x' < y') (h2 : x = y ↔ x' = y') : compare x y = compare x' y' := by
  simp only [compare, compareOfLessAndEq]
  by_cases a : x < y
  · rw [if_pos a, if_pos (h1.1 a)]
  · rw [if_neg a, if_neg (fun h => a (h1.2 h))]
    by_cases b : x = y
    · rw [if_pos b, if_pos (h2.1 b)]
    · rw [if_neg b, if_neg (fun h => b (h2.2 h))]

theorem val_mono (r s : Nat) : (val r < val s ↔ r < s) ∧ (val r = val s ↔ r = s) := by
  rcases Nat.lt_trichotomy r s with h | h | h
  · have := val_lt h; omega
  · subst h; simp
  · have := val_lt h; omega

/-- Two floats, neither of them a NaN: in the order of their keys. -/
theorem order_num (a b : Nat) (ha : a < 18446744073709551616) (hb : b < 18446744073709551616) (na : isNaN a = false) (nb : isNaN b = false) : double.order a b = some (compare (key a) (key b)) := by
  have na' : a % big ≤ top := by simpa [isNaN] using na
  have nb' : b % big ≤ top := by simpa [isNaN] using nb
  have ht : 0 < top := by decide
  unfold Format.order key
  by_cases ia : a % big = top
  · rw [read_inf a ha ia]
    by_cases ib : b % big = top
    · rw [read_inf b hb ib, ia, ib]
      simp only [Datum.order]
      by_cases h1 : big ≤ a <;> by_cases h2 : big ≤ b <;> simp [h1, h2] <;> decide
    · rw [read_num b hb (by omega), ia]
      simp only [Datum.order]
      congr 1
      by_cases h1 : big ≤ a
      · simp only [h1, decide_true, if_true]
        simp only [compare, compareOfLessAndEq]
        rw [if_pos (by split <;> omega)]
      · simp only [h1, decide_false, if_false, Bool.false_eq_true]
        simp only [compare, compareOfLessAndEq]
        rw [if_neg (by split <;> omega), if_neg (by split <;> omega)]
  · rw [read_num a ha (by omega)]
    by_cases ib : b % big = top
    · rw [read_inf b hb ib, ib]
      simp only [Datum.order]
      congr 1
      by_cases h1 : big ≤ b
      · simp only [h1, decide_true, if_true]
        simp only [compare, compareOfLessAndEq]
        rw [if_neg (by split <;> omega), if_neg (by split <;> omega)]
      · simp only [h1, decide_false, if_false, Bool.false_eq_true]
        simp only [compare, compareOfLessAndEq]
        rw [if_pos (by split <;> omega)]
    · rw [read_num b hb (by omega)]
      simp only [Datum.order]
      congr 1
      generalize hx : a % big = r
      generalize hy : b % big = s
      have e1 : (double.leastPlace + (up r : Nat) - min (double.leastPlace + (up r : Nat)) (double.leastPlace + (up s : Nat))).toNat = up r - min (up r) (up s) := by omega
      have e2 : (double.leastPlace + (up s : Nat) - min (double.leastPlace + (up r : Nat)) (double.leastPlace + (up s : Nat))).toNat = up s - min (up r) (up s) := by omega
      rw [e1, e2]
      have g := compare_scale (signed (decide (big ≤ a)) (mag r) (up r - min (up r) (up s))) (signed (decide (big ≤ b)) (mag s) (up s - min (up r) (up s))) (min (up r) (up s))
      have hsc : ∀ (n : Bool) (m u k : Nat), signed n m u * (2 ^ k : Nat) = signed n m (u + k) := by
        intro n m u k
        unfold signed
        rw [Nat.shiftLeft_eq, Nat.shiftLeft_eq, Nat.pow_add, ← Nat.mul_assoc]
        split
        · rw [Int.neg_mul]; congr 1
        · rfl
      rw [hsc, hsc, show up r - min (up r) (up s) + min (up r) (up s) = up r + 0 from by omega, show up s - min (up r) (up s) + min (up r) (up s) = up s + 0 from by omega, signed_val, signed_val] at g
      rw [← g]
      have m1 := val_mono r s
      have m2 := val_mono s r
      have z1 := val_mono r 0
      have z2 := val_mono s 0
      rw [val_zero] at z1 z2
      simp only [Nat.pow_zero, Int.natCast_one, Int.mul_one]
      refine cmp_int _ _ _ _ ?_ ?_
      · by_cases h1 : big ≤ a <;> by_cases h2 : big ≤ b <;> simp only [h1, h2, decide_true, decide_false, if_true, if_false, Bool.false_eq_true] <;> omega
      · by_cases h1 : big ≤ a <;> by_cases h2 : big ≤ b <;> simp only [h1, h2, decide_true, decide_false, if_true, if_false, Bool.false_eq_true] <;> omega

theorem order_nan (a b : Nat) (h : isNaN a = true ∨ isNaN b = true) : double.order a b = none := by
  unfold Format.order
  rcases h with h | h
  · obtain ⟨s, t, e⟩ := read_nan a (by simpa [isNaN] using h)
    rw [e]; rfl
  · obtain ⟨s, t, e⟩ := read_nan b (by simpa [isNaN] using h)
    rw [e]
    cases double.read a <;> rfl

end Go.Proofs.Ytnfdalfnbjencaa.Fl
