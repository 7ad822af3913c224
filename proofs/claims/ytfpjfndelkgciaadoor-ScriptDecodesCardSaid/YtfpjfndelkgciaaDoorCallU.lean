/- The table `used` of layer call, as it lies: what the walks ask of the world. -/
import Derived.Test.YtfpjfndelkgciaaDoorWWords
import Derived.Test.YtfpjfndelkgciaaDoorProg
import Derived.WalkKit
import Derived.KernelRfl
namespace Go.Proofs.YtfpjfndelkgciaaDoor.Fw
open Go.RowKit Go.Proofs.YtfpjfndelkgciaaDoorW.PrintWords
set_option linter.unusedVariables false

/-- Key, val, old, handle: of each op from 0 to 13. -/
def tab : List Bool := [false, false, false, false, true, false, false, false, true, true, false, false, true, true, false, false, true, true, true, false, true, false, false, false, true, false, false, false,
  false, false, false, false, false, false, false, true, true, false, false, true, false, false, false, true, true, false, false, true, false, false, false, true, false, false, false, false]
def Used (w : World) : Prop := ∀ r, r < 56 → w.cell? ⟨0, r, none⟩ = some (.bool (tab.getD r false))
theorem Used.pos {w : World} (h : Used w) : 0 < w.heap.size := World.block_lt_of_cell? w _ (h 0 (by decide))
theorem Used.below {w w1 : World} (h : Used w) (hb : Below w.heap.size w w1) : Used w1 := fun r hr => by
  have e := hb.block 0 h.pos
  have := h r hr
  simpa [World.cell?, e] using this
/-- Does an op use the key (0), the val (1), the old one (2), the handle (3)? -/
def usesB (op : Int) (what : Nat) : Bool := if 1 ≤ op ∧ op ≤ 13 then tab.getD (4 * op.toNat + what) false else false
theorem usesB_out (op : Int) (what : Nat) (h : ¬ (1 ≤ op ∧ op ≤ 13)) : usesB op what = false := by unfold usesB; rw [if_neg h]

end Go.Proofs.YtfpjfndelkgciaaDoor.Fw
