/- Words for the code chapter's walks: a number's eight bytes; the document's float of a rank. -/
import Derived.Test.YtfpjfndelkgciaaFloatW2
namespace Go.Proofs.Ytfpjfndelkgciaa.Fw
open Go.RowKit Go.Proofs.Ytfpjfndelkgciaa.Fl Go.Proofs.YtfpjfndelkgciaaW.PrintWords
set_option linter.unusedVariables false
set_option linter.unusedSimpArgs false

theorem ext_size1 (a : ByteArray) : (a.extract 1 a.size).size = a.size - 1 := by
  show (a.extract 1 a.size).data.size = _
  rw [ByteArray.data_extract, Array.size_extract]
  show min a.size a.size - 1 = _
  omega

/-- Byte i of a number's eight, the highest first. -/
def byteAt (n i : Nat) : UInt8 := UInt8.ofNat (n / 2 ^ (8 * (7 - i)) % 256)
def eight (n : Nat) : ByteArray := ⟨#[byteAt n 0, byteAt n 1, byteAt n 2, byteAt n 3, byteAt n 4, byteAt n 5, byteAt n 6, byteAt n 7]⟩
def runrank (n : Nat) : Nat × Bool := if (isNaN (bitsOf n) && decide (n ≠ nanRank)) = true then (0, false) else (bitsOf n, true)

theorem runrank_c (n : Nat) (hn : n < full) (w : World) : Calls Try.prog 28 #[.int .u64 (n : Int)] w fun e w' => e = .returned (.tuple #[.float .f64 (runrank n).1, .bool (runrank n).2]) ∧ Drawn0 w w' := by
  have hb : below n = true ∧ n - big = bitsOf n ∨ below n = false ∧ all1 - n = bitsOf n := by
    unfold below bitsOf
    by_cases hc : big ≤ n <;> simp [hc]
  have hq : ((n : Int) != 18444492273895866369) = decide (n ≠ nanRank) := by
    by_cases h : n = nanRank
    · subst h; decide
    · rw [neq_nan n h]; simp [h]
  have := refUnrank_at n (bitsOf n) (decide (n ≠ nanRank)) (isNaN (bitsOf n)) w (bitsOf_lt n hn) hn ⟨hb⟩ ⟨rfl⟩ hq
  refine this.mono ?_
  rintro e w1 ⟨rfl, h2⟩
  refine ⟨?_, h2⟩
  unfold runrank
  split <;> rfl

end Go.Proofs.Ytfpjfndelkgciaa.Fw
