/- The walk of code.bytes: a number's eight bytes. -/
import Derived.Test.YtfpjfndelkgciaaCodeF
import Derived.Deep.LoopGhost
import Derived.Test.YtfpjfndelkgciaaWMore
namespace Go.Proofs.Ytfpjfndelkgciaa.Fw
open Go.RowKit Go.Proofs.Ytfpjfndelkgciaa.Fl Go.Proofs.YtfpjfndelkgciaaW.PrintWords
set_option linter.unusedVariables false
set_option linter.unusedSimpArgs false

def byv (n j i : Nat) : Value := .int .u8 (if 7 - j < i then ((byteAt n j).toNat : Int) else 0)
def arr8 (n i : Nat) : Array Value := #[byv n 0 i, byv n 1 i, byv n 2 i, byv n 3 i, byv n 4 i, byv n 5 i, byv n 6 i, byv n 7 i]

theorem cv8 (n g : Nat) (W : World) (h : W.heap[g]? = some (.cells (arr8 n 8) 52 (0, 0))) : (convert 53 9 (.slice (some ⟨g, 0, none⟩) 8 8)).run Try.prog W = .ok (.string (eight n)) W := by
  have := run_convert_bytes_arg (P := Try.prog) W 53 5 Try.underlying53 Try.underlying5 g 0 8 8 [(byteAt n 0).toNat, (byteAt n 1).toNat, (byteAt n 2).toNat, (byteAt n 3).toNat, (byteAt n 4).toNat, (byteAt n 5).toNat, (byteAt n 6).toNat, (byteAt n 7).toNat] rfl (fun i hi => by
    rw [Nat.zero_add, blk_cell h i]
    have h2 : i = 0 ∨ i = 1 ∨ i = 2 ∨ i = 3 ∨ i = 4 ∨ i = 5 ∨ i = 6 ∨ i = 7 := by omega
    rcases h2 with rfl | rfl | rfl | rfl | rfl | rfl | rfl | rfl <;> rfl) 9 Try.underlying9
  refine this.trans ?_
  simp [strOfNums, eight]

theorem put0 (n : Nat) : (arr8 n 0).setIfInBounds 7 (.int .u8 ((n : Int) % 256)) = arr8 n 1 := by
  have h : ((byteAt n 7).toNat : Int) = (n : Int) % 256 := by unfold byteAt; simp [UInt8.toNat_ofNat']
  simp [arr8, byv, h]
theorem put1 (n : Nat) : (arr8 n 1).setIfInBounds 6 (.int .u8 (((n / 256 : Nat) : Int) % 256)) = arr8 n 2 := by
  have h : ((byteAt n 6).toNat : Int) = ((n / 256 : Nat) : Int) % 256 := by unfold byteAt; simp [UInt8.toNat_ofNat']
  simp [arr8, byv, h]
theorem put2 (n : Nat) : (arr8 n 2).setIfInBounds 5 (.int .u8 (((n / 65536 : Nat) : Int) % 256)) = arr8 n 3 := by
  have h : ((byteAt n 5).toNat : Int) = ((n / 65536 : Nat) : Int) % 256 := by unfold byteAt; simp [UInt8.toNat_ofNat']
  simp [arr8, byv, h]
theorem put3 (n : Nat) : (arr8 n 3).setIfInBounds 4 (.int .u8 (((n / 16777216 : Nat) : Int) % 256)) = arr8 n 4 := by
  have h : ((byteAt n 4).toNat : Int) = ((n / 16777216 : Nat) : Int) % 256 := by unfold byteAt; simp [UInt8.toNat_ofNat']
  simp [arr8, byv, h]
theorem put4 (n : Nat) : (arr8 n 4).setIfInBounds 3 (.int .u8 (((n / 4294967296 : Nat) : Int) % 256)) = arr8 n 5 := by
  have h : ((byteAt n 3).toNat : Int) = ((n / 4294967296 : Nat) : Int) % 256 := by unfold byteAt; simp [UInt8.toNat_ofNat']
  simp [arr8, byv, h]
theorem put5 (n : Nat) : (arr8 n 5).setIfInBounds 2 (.int .u8 (((n / 1099511627776 : Nat) : Int) % 256)) = arr8 n 6 := by
  have h : ((byteAt n 2).toNat : Int) = ((n / 1099511627776 : Nat) : Int) % 256 := by unfold byteAt; simp [UInt8.toNat_ofNat']
  simp [arr8, byv, h]
theorem put6 (n : Nat) : (arr8 n 6).setIfInBounds 1 (.int .u8 (((n / 281474976710656 : Nat) : Int) % 256)) = arr8 n 7 := by
  have h : ((byteAt n 1).toNat : Int) = ((n / 281474976710656 : Nat) : Int) % 256 := by unfold byteAt; simp [UInt8.toNat_ofNat']
  simp [arr8, byv, h]
theorem put7 (n : Nat) : (arr8 n 7).setIfInBounds 0 (.int .u8 (((n / 72057594037927936 : Nat) : Int) % 256)) = arr8 n 8 := by
  have h : ((byteAt n 0).toNat : Int) = ((n / 72057594037927936 : Nat) : Int) % 256 := by unfold byteAt; simp [UInt8.toNat_ofNat']
  simp [arr8, byv, h]
set_option maxHeartbeats 8000000 in
set_option maxRecDepth 100000 in
theorem bytes_c (n : Nat) (w : World) (hn : n < full) : Calls Try.prog 20 #[.int .u64 (n : Int)] w fun e w' => e = .returned (.string (eight n)) ∧ Below w.heap.size w w' := by
  go_enter Try.func20, Try.ntmps20
  go_wp2
  go_loopg [5] 9 (fun gg s5 wr => ∃ (i : Nat), s5 = .int .i64 (i : Int) ∧ Aside0 (gg = 9 - i ∧ i ≤ 8) ∧ Aside0 (wr.heap[w.heap.size]? = some (.cells (arr8 n i) 52 (0, 0))) ∧ Aside0 (Below w.heap.size w wr))
  case atStart => exact ⟨0, rfl, ⟨by omega⟩, ⟨blk_new w _⟩, ⟨below_alloc (Below.refl _ _) _⟩⟩
  case round =>
    obtain ⟨i, rfl, hi, hh, hb⟩ := hrel
    have h2 : i = 8 ∨ i = 0 ∨ i = 1 ∨ i = 2 ∨ i = 3 ∨ i = 4 ∨ i = 5 ∨ i = 6 ∨ i = 7 := by have := hi.out; omega
    rcases h2 with rfl | h2
    · have hcv := cv8 n _ wr hh.out
      go_wp2
      go_ret
      exact ⟨rfl, hb.out⟩
    · rcases h2 with rfl | rfl | rfl | rfl | rfl | rfl | rfl | rfl
      · have hz0 : wr.cell? ⟨w.heap.size, 7, none⟩ = some (byv n 7 0) := (blk_cell hh.out 7).trans rfl
        have hf0 := blk_frozen hh.out 7
        go_wp2
        go_roundg (gk - 1)
        case measure => have := hi.out; omega
        case rel => exact ⟨1, rfl, ⟨by have := hi.out; omega⟩, ⟨blk_put hh.out 7 _ (put0 n)⟩, ⟨below_set hb.out (Nat.le_refl _)⟩⟩
      · have hz1 : wr.cell? ⟨w.heap.size, 6, none⟩ = some (byv n 6 1) := (blk_cell hh.out 6).trans rfl
        have hf1 := blk_frozen hh.out 6
        go_wp2
        go_roundg (gk - 1)
        case measure => have := hi.out; omega
        case rel => exact ⟨2, rfl, ⟨by have := hi.out; omega⟩, ⟨blk_put hh.out 6 _ (put1 n)⟩, ⟨below_set hb.out (Nat.le_refl _)⟩⟩
      · have hz2 : wr.cell? ⟨w.heap.size, 5, none⟩ = some (byv n 5 2) := (blk_cell hh.out 5).trans rfl
        have hf2 := blk_frozen hh.out 5
        go_wp2
        go_roundg (gk - 1)
        case measure => have := hi.out; omega
        case rel => exact ⟨3, rfl, ⟨by have := hi.out; omega⟩, ⟨blk_put hh.out 5 _ (put2 n)⟩, ⟨below_set hb.out (Nat.le_refl _)⟩⟩
      · have hz3 : wr.cell? ⟨w.heap.size, 4, none⟩ = some (byv n 4 3) := (blk_cell hh.out 4).trans rfl
        have hf3 := blk_frozen hh.out 4
        go_wp2
        go_roundg (gk - 1)
        case measure => have := hi.out; omega
        case rel => exact ⟨4, rfl, ⟨by have := hi.out; omega⟩, ⟨blk_put hh.out 4 _ (put3 n)⟩, ⟨below_set hb.out (Nat.le_refl _)⟩⟩
      · have hz4 : wr.cell? ⟨w.heap.size, 3, none⟩ = some (byv n 3 4) := (blk_cell hh.out 3).trans rfl
        have hf4 := blk_frozen hh.out 3
        go_wp2
        go_roundg (gk - 1)
        case measure => have := hi.out; omega
        case rel => exact ⟨5, rfl, ⟨by have := hi.out; omega⟩, ⟨blk_put hh.out 3 _ (put4 n)⟩, ⟨below_set hb.out (Nat.le_refl _)⟩⟩
      · have hz5 : wr.cell? ⟨w.heap.size, 2, none⟩ = some (byv n 2 5) := (blk_cell hh.out 2).trans rfl
        have hf5 := blk_frozen hh.out 2
        go_wp2
        go_roundg (gk - 1)
        case measure => have := hi.out; omega
        case rel => exact ⟨6, rfl, ⟨by have := hi.out; omega⟩, ⟨blk_put hh.out 2 _ (put5 n)⟩, ⟨below_set hb.out (Nat.le_refl _)⟩⟩
      · have hz6 : wr.cell? ⟨w.heap.size, 1, none⟩ = some (byv n 1 6) := (blk_cell hh.out 1).trans rfl
        have hf6 := blk_frozen hh.out 1
        go_wp2
        go_roundg (gk - 1)
        case measure => have := hi.out; omega
        case rel => exact ⟨7, rfl, ⟨by have := hi.out; omega⟩, ⟨blk_put hh.out 1 _ (put6 n)⟩, ⟨below_set hb.out (Nat.le_refl _)⟩⟩
      · have hz7 : wr.cell? ⟨w.heap.size, 0, none⟩ = some (byv n 0 7) := (blk_cell hh.out 0).trans rfl
        have hf7 := blk_frozen hh.out 0
        go_wp2
        go_roundg (gk - 1)
        case measure => have := hi.out; omega
        case rel => exact ⟨8, rfl, ⟨by have := hi.out; omega⟩, ⟨blk_put hh.out 0 _ (put7 n)⟩, ⟨below_set hb.out (Nat.le_refl _)⟩⟩

end Go.Proofs.Ytfpjfndelkgciaa.Fw
