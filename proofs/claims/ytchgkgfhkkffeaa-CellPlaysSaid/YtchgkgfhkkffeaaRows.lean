/-
  No cell of these rows narrows 'for every input' (looked for: loops, veiled, ifaces, maps, wideKeys, modest, calm, conditions, laid).
  DERIVED. THE GIVEN ROWS OF THIS SEAT. 9 by the template 'for every input the law returns true; each argument reads behind the call as it read before'; 0 by the template 'total and deterministic' (their statements: YtchgkgfhkkffeaaTotals.lean).
  GIVEN WITH THE SEED: the statements are not yours to turn. If you find one false, say at which input.
  Laid BY PROGRAM, IN A SANDBOX (cutbox-rows.mjs): the forced cells as the released guide's own fill.sh prints them over the translation e1068131c7bfd94b… (all of the seat's roots in one cut). By AI agents, Wed Nov 11 2026. No macro, syntax, notation, axiom, sorry.
-/
import Derived.Test.YtchgkgfhkkffeaaChecked
import GoSem.Claim
import GoSem.ClaimJoined
import GoSem.ClaimMapViews
import Derived.JoinedTies
import Derived.KernelRfl
namespace Go.Proofs.Ytchgkgfhkkffeaa
/- THE CELL 'sum', in the pinned program and in every row, IS THE sha256 OF THE DUMP (.gsa) THAT YtchgkgfhkkffeaaProg.lean LOADS. Nothing in Lean hashes anything: it is a label: what it is worth is what the hold of that sum in a sandbox is worth. -/
noncomputable def Try.pinned : Pinned := { name := "ytchgkgfhkkffeaa", sum := "e1068131c7bfd94b031af41ba7bbcbdae9cd08b31936207ac74c5af12e660b60", checked := Try.checked }
namespace Rows
def none {H : Type} : Left H := { results := [], args := [] }

/-- 'boscagelaw15.SpanBoth': WHATEVER THE INPUT: true; the input reads as it did. -/
def spanBothSpec : ChangeSpec := { name := "spanBoth", fn := fun _ => fun
  | [d1, d2, d3, d4, d5] => { results := [.lit (.bool true)], args := [d1, d2, d3, d4, d5] }
  | _ => none }
def spanBothRow : OpenClaim := { program := "ytchgkgfhkkffeaa", sum := "e1068131c7bfd94b031af41ba7bbcbdae9cd08b31936207ac74c5af12e660b60", func := "boscage/boscagelaw15.SpanBoth", spec := "spanBoth", apart := false }
def SpanBothSaid : Prop := spanBothRow.holds Try.pinned (OpenSpec.ofChange spanBothSpec)

/-- ITS FALSE NEIGHBOUR: 'it returns false'. Refute it at one input. -/
def spanBothWrong : ChangeSpec := { name := "spanBoth", fn := fun _ => fun
  | [d1, d2, d3, d4, d5] => { results := [.lit (.bool false)], args := [d1, d2, d3, d4, d5] }
  | _ => none }
def SpanBothWrongFalsely : Prop := spanBothRow.holds Try.pinned (OpenSpec.ofChange spanBothWrong)

/-- 'boscagelaw15.SpanMeets': WHATEVER THE INPUT: true; the input reads as it did. -/
def spanMeetsSpec : ChangeSpec := { name := "spanMeets", fn := fun _ => fun
  | [d1, d2, d3, d4] => { results := [.lit (.bool true)], args := [d1, d2, d3, d4] }
  | _ => none }
def spanMeetsRow : OpenClaim := { program := "ytchgkgfhkkffeaa", sum := "e1068131c7bfd94b031af41ba7bbcbdae9cd08b31936207ac74c5af12e660b60", func := "boscage/boscagelaw15.SpanMeets", spec := "spanMeets", apart := false }
def SpanMeetsSaid : Prop := spanMeetsRow.holds Try.pinned (OpenSpec.ofChange spanMeetsSpec)

/-- ITS FALSE NEIGHBOUR: 'it returns false'. Refute it at one input. -/
def spanMeetsWrong : ChangeSpec := { name := "spanMeets", fn := fun _ => fun
  | [d1, d2, d3, d4] => { results := [.lit (.bool false)], args := [d1, d2, d3, d4] }
  | _ => none }
def SpanMeetsWrongFalsely : Prop := spanMeetsRow.holds Try.pinned (OpenSpec.ofChange spanMeetsWrong)

/-- 'boscagelaw15.SpanHas': WHATEVER THE INPUT: true; the input reads as it did. -/
def spanHasSpec : ChangeSpec := { name := "spanHas", fn := fun _ => fun
  | [d1, d2, d3, d4] => { results := [.lit (.bool true)], args := [d1, d2, d3, d4] }
  | _ => none }
def spanHasRow : OpenClaim := { program := "ytchgkgfhkkffeaa", sum := "e1068131c7bfd94b031af41ba7bbcbdae9cd08b31936207ac74c5af12e660b60", func := "boscage/boscagelaw15.SpanHas", spec := "spanHas", unfollowed := true, recurses := true, apart := false }
def SpanHasSaid : Prop := spanHasRow.holds Try.pinned (OpenSpec.ofChange spanHasSpec)

/-- ITS FALSE NEIGHBOUR: 'it returns false'. Refute it at one input. -/
def spanHasWrong : ChangeSpec := { name := "spanHas", fn := fun _ => fun
  | [d1, d2, d3, d4] => { results := [.lit (.bool false)], args := [d1, d2, d3, d4] }
  | _ => none }
def SpanHasWrongFalsely : Prop := spanHasRow.holds Try.pinned (OpenSpec.ofChange spanHasWrong)

/-- 'boscagelaw08.RefMakes': WHATEVER THE INPUT: true; the input reads as it did. -/
def refMakesSpec : ChangeSpec := { name := "refMakes", fn := fun _ => fun
  | [d1, d2, d3] => { results := [.lit (.bool true)], args := [d1, d2, d3] }
  | _ => none }
def refMakesRow : OpenClaim := { program := "ytchgkgfhkkffeaa", sum := "e1068131c7bfd94b031af41ba7bbcbdae9cd08b31936207ac74c5af12e660b60", func := "boscage/boscagelaw08.RefMakes", spec := "refMakes", apart := false }
def RefMakesSaid : Prop := refMakesRow.holds Try.pinned (OpenSpec.ofChange refMakesSpec)

/-- ITS FALSE NEIGHBOUR: 'it returns false'. Refute it at one input. -/
def refMakesWrong : ChangeSpec := { name := "refMakes", fn := fun _ => fun
  | [d1, d2, d3] => { results := [.lit (.bool false)], args := [d1, d2, d3] }
  | _ => none }
def RefMakesWrongFalsely : Prop := refMakesRow.holds Try.pinned (OpenSpec.ofChange refMakesWrong)

/-- 'boscagelaw08.RefTells': WHATEVER THE INPUT: true; the input reads as it did. -/
def refTellsSpec : ChangeSpec := { name := "refTells", fn := fun _ => fun
  | [d] => { results := [.lit (.bool true)], args := [d] }
  | _ => none }
def refTellsRow : OpenClaim := { program := "ytchgkgfhkkffeaa", sum := "e1068131c7bfd94b031af41ba7bbcbdae9cd08b31936207ac74c5af12e660b60", func := "boscage/boscagelaw08.RefTells", spec := "refTells", apart := false }
def RefTellsSaid : Prop := refTellsRow.holds Try.pinned (OpenSpec.ofChange refTellsSpec)

/-- ITS FALSE NEIGHBOUR: 'it returns false'. Refute it at one input. -/
def refTellsWrong : ChangeSpec := { name := "refTells", fn := fun _ => fun
  | [d] => { results := [.lit (.bool false)], args := [d] }
  | _ => none }
def RefTellsWrongFalsely : Prop := refTellsRow.holds Try.pinned (OpenSpec.ofChange refTellsWrong)

/-- 'boscagelaw08.RefBack': WHATEVER THE INPUT: true; the input reads as it did. -/
def refBackSpec : ChangeSpec := { name := "refBack", fn := fun _ => fun
  | [d1, d2, d3] => { results := [.lit (.bool true)], args := [d1, d2, d3] }
  | _ => none }
def refBackRow : OpenClaim := { program := "ytchgkgfhkkffeaa", sum := "e1068131c7bfd94b031af41ba7bbcbdae9cd08b31936207ac74c5af12e660b60", func := "boscage/boscagelaw08.RefBack", spec := "refBack", apart := false }
def RefBackSaid : Prop := refBackRow.holds Try.pinned (OpenSpec.ofChange refBackSpec)

/-- ITS FALSE NEIGHBOUR: 'it returns false'. Refute it at one input. -/
def refBackWrong : ChangeSpec := { name := "refBack", fn := fun _ => fun
  | [d1, d2, d3] => { results := [.lit (.bool false)], args := [d1, d2, d3] }
  | _ => none }
def RefBackWrongFalsely : Prop := refBackRow.holds Try.pinned (OpenSpec.ofChange refBackWrong)

/-- 'boscagelaw12.CellChanges': WHATEVER THE INPUT: true; the input reads as it did. -/
def cellChangesSpec : ChangeSpec := { name := "cellChanges", fn := fun _ => fun
  | [d1, d2] => { results := [.lit (.bool true)], args := [d1, d2] }
  | _ => none }
def cellChangesRow : OpenClaim := { program := "ytchgkgfhkkffeaa", sum := "e1068131c7bfd94b031af41ba7bbcbdae9cd08b31936207ac74c5af12e660b60", func := "boscage/boscagelaw12.CellChanges", spec := "cellChanges", apart := false }
def CellChangesSaid : Prop := cellChangesRow.holds Try.pinned (OpenSpec.ofChange cellChangesSpec)

/-- ITS FALSE NEIGHBOUR: 'it returns false'. Refute it at one input. -/
def cellChangesWrong : ChangeSpec := { name := "cellChanges", fn := fun _ => fun
  | [d1, d2] => { results := [.lit (.bool false)], args := [d1, d2] }
  | _ => none }
def CellChangesWrongFalsely : Prop := cellChangesRow.holds Try.pinned (OpenSpec.ofChange cellChangesWrong)

/-- 'boscagelaw12.CellPlays': WHATEVER THE INPUT: true; the input reads as it did. -/
def cellPlaysSpec : ChangeSpec := { name := "cellPlays", fn := fun _ => fun
  | [d1, d2] => { results := [.lit (.bool true)], args := [d1, d2] }
  | _ => none }
def cellPlaysRow : OpenClaim := { program := "ytchgkgfhkkffeaa", sum := "e1068131c7bfd94b031af41ba7bbcbdae9cd08b31936207ac74c5af12e660b60", func := "boscage/boscagelaw12.CellPlays", spec := "cellPlays", apart := false }
def CellPlaysSaid : Prop := cellPlaysRow.holds Try.pinned (OpenSpec.ofChange cellPlaysSpec)

/-- ITS FALSE NEIGHBOUR: 'it returns false'. Refute it at one input. -/
def cellPlaysWrong : ChangeSpec := { name := "cellPlays", fn := fun _ => fun
  | [d1, d2] => { results := [.lit (.bool false)], args := [d1, d2] }
  | _ => none }
def CellPlaysWrongFalsely : Prop := cellPlaysRow.holds Try.pinned (OpenSpec.ofChange cellPlaysWrong)

/-- 'boscagelaw12.CellNew': WHATEVER THE INPUT: true; the input reads as it did. -/
def cellNewSpec : ChangeSpec := { name := "cellNew", fn := fun _ => fun
  | [d1, d2] => { results := [.lit (.bool true)], args := [d1, d2] }
  | _ => none }
def cellNewRow : OpenClaim := { program := "ytchgkgfhkkffeaa", sum := "e1068131c7bfd94b031af41ba7bbcbdae9cd08b31936207ac74c5af12e660b60", func := "boscage/boscagelaw12.CellNew", spec := "cellNew", apart := false }
def CellNewSaid : Prop := cellNewRow.holds Try.pinned (OpenSpec.ofChange cellNewSpec)

/-- ITS FALSE NEIGHBOUR: 'it returns false'. Refute it at one input. -/
def cellNewWrong : ChangeSpec := { name := "cellNew", fn := fun _ => fun
  | [d1, d2] => { results := [.lit (.bool false)], args := [d1, d2] }
  | _ => none }
def CellNewWrongFalsely : Prop := cellNewRow.holds Try.pinned (OpenSpec.ofChange cellNewWrong)

/- THE SECOND FORM. 'bulk': how many values and letters a reading holds, each counted each time it is reached (what is shared counts as often as it is met; a slice's spare places count too). A statement '..UptoSaid' is the law's where the arguments, and the package variables that the reading takes, are together of bulk at most 1048576: NARROWER than '..Said'. Prove '..Said' where nothing that the law and all that it calls make is longer than what came in: it says more and counts as full. Else prove '..UptoSaid'. A law counts once. -/
mutual
def uptoBulk {H : Type} : DataW H → Nat
  | .lit (.string bytes) => bytes.length + 1
  | .lit _ => 1
  | .nil => 1
  | .ptr d => uptoBulk d + 1
  | .slice elems spare => uptoBulkAll elems + uptoBulkAll spare + 1
  | .agg parts => uptoBulkAll parts + 1
  | .iface _ d => uptoBulk d + 1
  | .map entries => uptoBulkEntries entries + 1
  | .held _ => 1
def uptoBulkAll {H : Type} : List (DataW H) → Nat
  | [] => 0
  | d :: r => uptoBulk d + uptoBulkAll r
def uptoBulkEntries {H : Type} : List (Lit × DataW H) → Nat
  | [] => 0
  | x :: r => uptoBulkEntry x + uptoBulkEntries r
def uptoBulkEntry {H : Type} : Lit × DataW H → Nat
  | (.string bytes, d) => bytes.length + uptoBulk d + 1
  | (_, d) => uptoBulk d + 1
 end
def uptoSmall : (H : Type) → List (DataW H) → Bool := fun _ ds => decide (uptoBulkAll ds ≤ 1048576)
def OpenSpec.upto (s : _root_.Go.ChangeSpec) : _root_.Go.OpenSpec := { _root_.Go.OpenSpec.ofChange s with cond := some uptoSmall }

/-- 'boscagelaw15.SpanBoth', WHERE WHAT IT READS IS OF BULK AT MOST 1048576: true; the input reads as it did. -/
def spanBothUptoRow : OpenClaim := { program := "ytchgkgfhkkffeaa", sum := "e1068131c7bfd94b031af41ba7bbcbdae9cd08b31936207ac74c5af12e660b60", func := "boscage/boscagelaw15.SpanBoth", spec := "spanBoth", apart := false, narrowed := true }
def SpanBothUptoSaid : Prop := spanBothUptoRow.holds Try.pinned (OpenSpec.upto spanBothSpec)

/-- 'boscagelaw15.SpanMeets', WHERE WHAT IT READS IS OF BULK AT MOST 1048576: true; the input reads as it did. -/
def spanMeetsUptoRow : OpenClaim := { program := "ytchgkgfhkkffeaa", sum := "e1068131c7bfd94b031af41ba7bbcbdae9cd08b31936207ac74c5af12e660b60", func := "boscage/boscagelaw15.SpanMeets", spec := "spanMeets", apart := false, narrowed := true }
def SpanMeetsUptoSaid : Prop := spanMeetsUptoRow.holds Try.pinned (OpenSpec.upto spanMeetsSpec)

/-- 'boscagelaw15.SpanHas', WHERE WHAT IT READS IS OF BULK AT MOST 1048576: true; the input reads as it did. -/
def spanHasUptoRow : OpenClaim := { program := "ytchgkgfhkkffeaa", sum := "e1068131c7bfd94b031af41ba7bbcbdae9cd08b31936207ac74c5af12e660b60", func := "boscage/boscagelaw15.SpanHas", spec := "spanHas", unfollowed := true, recurses := true, apart := false, narrowed := true }
def SpanHasUptoSaid : Prop := spanHasUptoRow.holds Try.pinned (OpenSpec.upto spanHasSpec)

/-- 'boscagelaw08.RefMakes', WHERE WHAT IT READS IS OF BULK AT MOST 1048576: true; the input reads as it did. -/
def refMakesUptoRow : OpenClaim := { program := "ytchgkgfhkkffeaa", sum := "e1068131c7bfd94b031af41ba7bbcbdae9cd08b31936207ac74c5af12e660b60", func := "boscage/boscagelaw08.RefMakes", spec := "refMakes", apart := false, narrowed := true }
def RefMakesUptoSaid : Prop := refMakesUptoRow.holds Try.pinned (OpenSpec.upto refMakesSpec)

/-- 'boscagelaw08.RefTells', WHERE WHAT IT READS IS OF BULK AT MOST 1048576: true; the input reads as it did. -/
def refTellsUptoRow : OpenClaim := { program := "ytchgkgfhkkffeaa", sum := "e1068131c7bfd94b031af41ba7bbcbdae9cd08b31936207ac74c5af12e660b60", func := "boscage/boscagelaw08.RefTells", spec := "refTells", apart := false, narrowed := true }
def RefTellsUptoSaid : Prop := refTellsUptoRow.holds Try.pinned (OpenSpec.upto refTellsSpec)

/-- 'boscagelaw08.RefBack', WHERE WHAT IT READS IS OF BULK AT MOST 1048576: true; the input reads as it did. -/
def refBackUptoRow : OpenClaim := { program := "ytchgkgfhkkffeaa", sum := "e1068131c7bfd94b031af41ba7bbcbdae9cd08b31936207ac74c5af12e660b60", func := "boscage/boscagelaw08.RefBack", spec := "refBack", apart := false, narrowed := true }
def RefBackUptoSaid : Prop := refBackUptoRow.holds Try.pinned (OpenSpec.upto refBackSpec)

/-- 'boscagelaw12.CellChanges', WHERE WHAT IT READS IS OF BULK AT MOST 1048576: true; the input reads as it did. -/
def cellChangesUptoRow : OpenClaim := { program := "ytchgkgfhkkffeaa", sum := "e1068131c7bfd94b031af41ba7bbcbdae9cd08b31936207ac74c5af12e660b60", func := "boscage/boscagelaw12.CellChanges", spec := "cellChanges", apart := false, narrowed := true }
def CellChangesUptoSaid : Prop := cellChangesUptoRow.holds Try.pinned (OpenSpec.upto cellChangesSpec)

/-- 'boscagelaw12.CellPlays', WHERE WHAT IT READS IS OF BULK AT MOST 1048576: true; the input reads as it did. -/
def cellPlaysUptoRow : OpenClaim := { program := "ytchgkgfhkkffeaa", sum := "e1068131c7bfd94b031af41ba7bbcbdae9cd08b31936207ac74c5af12e660b60", func := "boscage/boscagelaw12.CellPlays", spec := "cellPlays", apart := false, narrowed := true }
def CellPlaysUptoSaid : Prop := cellPlaysUptoRow.holds Try.pinned (OpenSpec.upto cellPlaysSpec)

/-- 'boscagelaw12.CellNew', WHERE WHAT IT READS IS OF BULK AT MOST 1048576: true; the input reads as it did. -/
def cellNewUptoRow : OpenClaim := { program := "ytchgkgfhkkffeaa", sum := "e1068131c7bfd94b031af41ba7bbcbdae9cd08b31936207ac74c5af12e660b60", func := "boscage/boscagelaw12.CellNew", spec := "cellNew", apart := false, narrowed := true }
def CellNewUptoSaid : Prop := cellNewUptoRow.holds Try.pinned (OpenSpec.upto cellNewSpec)

end Rows
end Go.Proofs.Ytchgkgfhkkffeaa
