/- A float's text in plain words: sixteen hexadecimal digits of its rank. -/
import Derived.Test.YtnfdalfnbjencaaFloatLaw
namespace Go.Proofs.Ytnfdalfnbjencaa.Fl

/-- A hexadecimal digit's byte. -/
def hexd (d : Nat) : Nat := if d < 10 then 48 + d else 87 + d
/-- Byte j of the text of n: the digit of 16 ^ (15 - j). -/
def hxat (n j : Nat) : Nat := hexd (n / 16 ^ (15 - j) % 16)
theorem hexd_lt (d : Nat) (h : d < 16) : hexd d < 256 := by unfold hexd; split <;> omega
theorem hxat_lt (n j : Nat) : hxat n j < 256 := hexd_lt _ (Nat.mod_lt _ (by decide))
/-- The text's bytes. -/
def text (n : Nat) : List Int := (List.range 16).map fun j => (hxat n j : Int)
/-- The bytes when the last k are written. -/
def partText (n k : Nat) : List Int := (List.range 16).map fun j => if 16 - k ≤ j then (hxat n j : Int) else 0
theorem partText_zero (n : Nat) : partText n 0 = List.replicate 16 0 := by
  unfold partText
  have h : (List.range 16).map (fun j => if 16 - 0 ≤ j then (hxat n j : Int) else 0) = (List.range 16).map (fun _ => (0 : Int)) := by
    apply List.map_congr_left
    intro j hj
    rw [List.mem_range] at hj
    rw [if_neg (by omega)]
  rw [h]
  rfl
theorem partText_full (n : Nat) : partText n 16 = text n := by
  unfold partText text
  simp
theorem partText_len (n k : Nat) : (partText n k).length = 16 := by simp [partText]
theorem partText_set (n k : Nat) (hk : k < 16) : (partText n k).set (15 - k) (hxat n (15 - k) : Int) = partText n (k + 1) := by
  unfold partText
  apply List.ext_getElem
  · simp
  · intro i h1 h2
    simp only [List.getElem_set, List.getElem_map, List.getElem_range]
    by_cases e : 15 - k = i
    · subst e
      rw [if_pos rfl, if_pos (by omega)]
    · rw [if_neg e]
      by_cases h : 16 - k ≤ i
      · rw [if_pos h, if_pos (by omega)]
      · rw [if_neg h, if_neg (by omega)]

end Go.Proofs.Ytnfdalfnbjencaa.Fl
