/- Words for the walks of the texts of floats: the document's float of a rank, exactly. -/
import Derived.Test.YtnfdalfnbjencaaStatW3
import Derived.Lib.SlBytesConst
namespace Go.Proofs.Ytnfdalfnbjencaa.Fw
open Go.RowKit Go.Proofs.Ytnfdalfnbjencaa.Fl Go.Proofs.YtnfdalfnbjencaaW.PrintWords
set_option linter.unusedVariables false
set_option linter.unusedSimpArgs false

def runrank (n : Nat) : Nat × Bool := if (isNaN (bitsOf n) && decide (n ≠ nanRank)) = true then (0, false) else (bitsOf n, true)

theorem runrank_c (n : Nat) (hn : n < full) (w : World) : Calls Try.prog 29 #[.int .u64 (n : Int)] w fun e w' => e = .returned (.tuple #[.float .f64 (runrank n).1, .bool (runrank n).2]) ∧ Drawn0 w w' := by
  have hb : below n = true ∧ n - big = bitsOf n ∨ below n = false ∧ all1 - n = bitsOf n := by
    unfold below bitsOf
    by_cases hc : big ≤ n <;> simp [hc]
  have hq : ((n : Int) != 18444492273895866369) = decide (n ≠ nanRank) := by
    by_cases h : n = nanRank
    · subst h; decide
    · rw [neq_nan n h]; simp [h]
  have := refUnrank_at n (bitsOf n) (decide (n ≠ nanRank)) (isNaN (bitsOf n)) w (bitsOf_lt n hn) hn ⟨hb⟩ ⟨rfl⟩ hq
  refine this.mono ?_
  rintro e w1 ⟨rfl, h2⟩
  refine ⟨?_, h2⟩
  unfold runrank
  split <;> rfl

theorem kc_bytes (w : World) (C : Array Value) (n c : Nat) : (convert 56 56 (.slice (some ⟨w.heap.size, 0, none⟩) n c)).run Try.prog (w.alloc (.cells C 5)) = .ok (.slice (some ⟨w.heap.size, 0, none⟩) n c) (w.alloc (.cells C 5 (C.size, C.size + 1))) :=
  Lib.run_convert_bytes_const (P := Try.prog) w 56 5 C n c Try.underlying56 Try.underlying5
/-- The sixteen digits, as the literal lays them. -/
theorem C_marked (X : World) (fr : Nat × Nat) : Kd.C (Kd.int .u8) (X.alloc (.cells #[.int .u8 48, .int .u8 49, .int .u8 50, .int .u8 51, .int .u8 52, .int .u8 53, .int .u8 54, .int .u8 55, .int .u8 56, .int .u8 57, .int .u8 97, .int .u8 98, .int .u8 99, .int .u8 100, .int .u8 101, .int .u8 102] 5 fr)) (some ⟨X.heap.size, 0, none⟩) ([48, 49, 50, 51, 52, 53, 54, 55, 56, 57, 97, 98, 99, 100, 101, 102] : List Int).length [48, 49, 50, 51, 52, 53, 54, 55, 56, 57, 97, 98, 99, 100, 101, 102] := by
  suffices h : ReadsInt (X.alloc (.cells #[.int .u8 48, .int .u8 49, .int .u8 50, .int .u8 51, .int .u8 52, .int .u8 53, .int .u8 54, .int .u8 55, .int .u8 56, .int .u8 57, .int .u8 97, .int .u8 98, .int .u8 99, .int .u8 100, .int .u8 101, .int .u8 102] 5 fr)) .u8 (some ⟨X.heap.size, 0, none⟩) 16 [48, 49, 50, 51, 52, 53, 54, 55, 56, 57, 97, 98, 99, 100, 101, 102] from Kd.C_of_reads h
  refine ⟨rfl, by decide, fun _ => ⟨_, rfl, fun j hj => ?_⟩⟩
  have e : (⟨X.heap.size, 0, none⟩ : Addr).add j = ⟨X.heap.size, j, none⟩ := by
    unfold Addr.add
    by_cases h0 : j = 0
    · subst h0; simp
    · simp [h0]
  rw [e, World.cell?_alloc_mark]
  have h2 : j = 0 ∨ j = 1 ∨ j = 2 ∨ j = 3 ∨ j = 4 ∨ j = 5 ∨ j = 6 ∨ j = 7 ∨ j = 8 ∨ j = 9 ∨ j = 10 ∨ j = 11 ∨ j = 12 ∨ j = 13 ∨ j = 14 ∨ j = 15 := by
    have : j < 16 := hj
    omega
  rcases h2 with rfl | rfl | rfl | rfl | rfl | rfl | rfl | rfl | rfl | rfl | rfl | rfl | rfl | rfl | rfl | rfl <;> rfl

end Go.Proofs.Ytnfdalfnbjencaa.Fw
