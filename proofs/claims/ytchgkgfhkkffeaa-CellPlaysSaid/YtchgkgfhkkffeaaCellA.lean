/- A slice of acts handed in: what it holds. -/
import Derived.Test.YtchgkgfhkkffeaaCellW9
namespace Go.Proofs.Ytchgkgfhkkffeaa.Ce
open Go.ChangeShapes Go.WideShapes Go.ChangeAt Go.RowKit
set_option linter.unusedVariables false
theorem open_acts {H : Type} {enc : TypeId × Value → H} {w : World} {base : Nat} {sp : Nat → Bool} {held : Bool} {v : Value} {d : DataW H} {ps : List MemPlace} {r : Reach} {b0 : Nat} (hval : Value.okWide Try.prog w r b0 59 v) (h : DataW.Trod enc Try.prog w base sp held 59 v d ps) : ∃ (A : Option Addr) (cap : Nat) (acts : List Act4), v = .slice A acts.length cap ∧ RA 8 actCells w A acts :=
  open_rows ⟨(0, 0, zero, zero), trivial⟩ Try.underlying59 (by kernel_rfl) (by decide) (fun n cs y hy => trod_act hy) hval h
end Go.Proofs.Ytchgkgfhkkffeaa.Ce
