/- Code's plain words: a number's eight bytes keep its order and tell it back. No program in sight. -/
import Derived.Test.YtfpjfndelkgciaaCodeF
import GoSem.Op.String
namespace Go.Proofs.Ytfpjfndelkgciaa.Fw
open Go.RowKit Go.Proofs.Ytfpjfndelkgciaa.Fl Go.Proofs.YtfpjfndelkgciaaW.PrintWords
set_option linter.unusedVariables false
set_option linter.unusedSimpArgs false

theorem xor_low (m : Nat) (h : m < 9223372036854775808) : m ^^^ 9223372036854775808 = 9223372036854775808 + m := by
  rw [show (9223372036854775808 : Nat) + m = 2 ^ 63 * 1 + m from rfl, Nat.two_pow_add_eq_or_of_lt (i := 63) h 1]
  refine Nat.eq_of_testBit_eq fun i => ?_
  rw [show (9223372036854775808 : Nat) = 2 ^ 63 from rfl, Nat.mul_one, Nat.testBit_xor, Nat.testBit_or, Nat.testBit_two_pow]
  by_cases hi : 63 = i
  · subst hi
    have : m.testBit 63 = false := Nat.testBit_lt_two_pow h
    simp [this]
  · simp [hi]
theorem xor_nat (n : Nat) (h : n < full) : n ^^^ 9223372036854775808 = (n + big) % full := by
  unfold full big at *
  by_cases hn : n < 9223372036854775808
  · rw [xor_low n hn]; omega
  · obtain ⟨m, rfl⟩ : ∃ m, n = 9223372036854775808 + m := ⟨n - 9223372036854775808, by omega⟩
    have hm : m < 9223372036854775808 := by omega
    rw [← xor_low m hm, Nat.xor_assoc, Nat.xor_self, Nat.xor_zero, xor_low m hm]; omega
theorem xor_big (n : Nat) (h : n < full) : bits .xor .u64 (n : Int) 9223372036854775808 = (((n + big) % full : Nat) : Int) := by
  have := u64_xor_nat n 9223372036854775808 h (by decide)
  refine this.trans ?_
  rw [xor_nat n h]

/-- The number of some bytes, the highest first. -/
def num (a : Nat) (l : List UInt8) : Nat := l.foldl (fun a b => 256 * a + b.toNat) a
theorem num_cons (a : Nat) (b : UInt8) (l : List UInt8) : num a (b :: l) = num (256 * a + b.toNat) l := rfl
theorem num_acc : ∀ (l : List UInt8) (a : Nat), num a l = a * 256 ^ l.length + num 0 l
  | [], a => by simp [num]
  | b :: l, a => by
    rw [num_cons, num_acc l, num_cons, num_acc l (256 * 0 + b.toNat), List.length_cons, Nat.pow_succ]
    generalize 256 ^ l.length = p
    rw [Nat.add_mul, Nat.add_mul, show 256 * a * p = a * (p * 256) by rw [Nat.mul_comm 256 a, Nat.mul_assoc, Nat.mul_comm 256 p]]
    omega
theorem num_lt : ∀ (l : List UInt8), num 0 l < 256 ^ l.length
  | [] => by simp [num]
  | b :: l => by
    rw [num_cons, num_acc, List.length_cons, Nat.pow_succ]
    have h := num_lt l
    have hb := b.toNat_lt
    generalize 256 ^ l.length = p at *
    have : (256 * 0 + b.toNat) * p ≤ 255 * p := Nat.mul_le_mul_right _ (by omega)
    omega
theorem bytes_less : ∀ (x y : List UInt8), x.length = y.length → Op.bytesLess x y = decide (num 0 x < num 0 y)
  | [], [], _ => by simp [Op.bytesLess, num]
  | a :: x, b :: y, h => by
    have h1 : x.length = y.length := by simpa using h
    rw [Op.bytesLess, bytes_less x y h1, num_cons, num_cons, num_acc x (256 * 0 + a.toNat), num_acc y (256 * 0 + b.toNat), h1]
    have hx := num_lt x
    have hy := num_lt y
    rw [h1] at hx
    generalize 256 ^ y.length = p at *
    rcases Nat.lt_trichotomy a.toNat b.toNat with hl | he | hg
    · have h2 : (256 * 0 + a.toNat + 1) * p ≤ (256 * 0 + b.toNat) * p := Nat.mul_le_mul_right _ (by omega)
      rw [Nat.add_mul _ 1 p] at h2
      have h3 : a < b := hl
      simp only [h3, decide_true, Bool.true_or]
      rw [eq_comm, decide_eq_true_eq]; omega
    · have h3 : a = b := UInt8.toNat_inj.mp he
      subst h3
      have h4 : ¬ a < a := by simp
      simp only [h4, decide_false, Bool.false_or, BEq.rfl, Bool.true_and]
      rw [decide_eq_decide]; omega
    · have h2 : (256 * 0 + b.toNat + 1) * p ≤ (256 * 0 + a.toNat) * p := Nat.mul_le_mul_right _ (by omega)
      rw [Nat.add_mul _ 1 p] at h2
      have h3 : ¬ a < b := by rw [UInt8.lt_iff_toNat_lt]; omega
      have h4 : (a == b) = false := by rw [beq_eq_false_iff_ne]; rintro rfl; omega
      simp only [h3, decide_false, h4, Bool.false_and, Bool.or_false]
      rw [eq_comm, decide_eq_false_iff_not]; omega

theorem byteAt_toNat (n i : Nat) : (byteAt n i).toNat = n / 2 ^ (8 * (7 - i)) % 256 := by unfold byteAt; simp [UInt8.toNat_ofNat']
theorem eight_list (n : Nat) : (eight n).toList = [byteAt n 0, byteAt n 1, byteAt n 2, byteAt n 3, byteAt n 4, byteAt n 5, byteAt n 6, byteAt n 7] := by
  rw [ByteArray.toList_eq]; rfl
theorem num_eight (n : Nat) (h : n < full) : num 0 (eight n).toList = n := by
  rw [eight_list]
  simp only [num, List.foldl_cons, List.foldl_nil, byteAt_toNat]
  unfold full at h
  simp only [Nat.reduceSub, Nat.reduceMul, Nat.reducePow]
  omega
theorem eight_size (n : Nat) : (eight n).size = 8 := rfl
theorem eight_less (a b : Nat) (ha : a < full) (hb : b < full) : Op.bytesLess (eight a).toList (eight b).toList = decide (a < b) := by
  rw [bytes_less _ _ (by rw [eight_list, eight_list]; rfl), num_eight a ha, num_eight b hb]

end Go.Proofs.Ytfpjfndelkgciaa.Fw
