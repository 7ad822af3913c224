/-
  NARROWER THAN 'FOR EVERY INPUT', by the rows' own cells (each row's printed sentence says how): CallMays: laid · CallCells: laid · CallApart: laid · ScriptDecodes: laid · ScriptBack: laid · ScriptEncodes: laid.
  DERIVED. THE GIVEN ROWS OF THIS SEAT. 6 by the template 'for every input the law returns true; each argument reads behind the call as it read before'; 0 by the template 'total and deterministic' (their statements: YtfpjfndelkgciaaDoorTotals.lean).
  GIVEN WITH THE SEED: the statements are not yours to turn. If you find one false, say at which input.
  Laid BY PROGRAM, IN A SANDBOX (cutbox-rows.mjs): the forced cells as the released guide's own fill.sh prints them over the translation 920e6a615c4b9b4a… (all of the seat's roots in one cut). By AI agents, Wed Nov 11 2026. No macro, syntax, notation, axiom, sorry.
-/
import Derived.Test.YtfpjfndelkgciaaDoorChecked
import GoSem.Claim
import GoSem.ClaimJoined
import GoSem.ClaimMapViews
import Derived.JoinedTies
import Derived.KernelRfl
namespace Go.Proofs.YtfpjfndelkgciaaDoor
/- THE CELL 'sum', in the pinned program and in every row, IS THE sha256 OF THE DUMP (.gsa) THAT YtfpjfndelkgciaaDoorProg.lean LOADS. Nothing in Lean hashes anything: it is a label: what it is worth is what the hold of that sum in a sandbox is worth. -/
noncomputable def Tryd.pinned : Pinned := { name := "ytfpjfndelkgciaadoor", sum := "920e6a615c4b9b4a28786134bc339e36e05ad5d2662b116302ba93e4e451eac6", checked := Tryd.checked }
namespace Rows
def none {H : Type} : Left H := { results := [], args := [] }

/- WHAT THE LISTED PACKAGE-LEVEL VARIABLES READ AS WHEN THE CALL BEGINS. Each datum BY PROGRAM (the guide's laid-datum.mjs) off the statement by which the dump's own 'gosem.cut.vars' lays the variable. In a bare row this is a premise. The card (YtfpjfndelkgciaaDoorCards.lean) ties it to the program's text. -/
def laid_boscage_call_used {H : Type} : DataW H := .agg [.agg [.lit (.bool false), .lit (.bool false), .lit (.bool false), .lit (.bool false)], .agg [.lit (.bool true), .lit (.bool false), .lit (.bool false), .lit (.bool false)], .agg [.lit (.bool true), .lit (.bool true), .lit (.bool false), .lit (.bool false)], .agg [.lit (.bool true), .lit (.bool true), .lit (.bool false), .lit (.bool false)], .agg [.lit (.bool true), .lit (.bool true), .lit (.bool true), .lit (.bool false)], .agg [.lit (.bool true), .lit (.bool false), .lit (.bool false), .lit (.bool false)], .agg [.lit (.bool true), .lit (.bool false), .lit (.bool false), .lit (.bool false)], .agg [.lit (.bool false), .lit (.bool false), .lit (.bool false), .lit (.bool false)], .agg [.lit (.bool false), .lit (.bool false), .lit (.bool false), .lit (.bool true)], .agg [.lit (.bool true), .lit (.bool false), .lit (.bool false), .lit (.bool true)], .agg [.lit (.bool false), .lit (.bool false), .lit (.bool false), .lit (.bool true)], .agg [.lit (.bool true), .lit (.bool false), .lit (.bool false), .lit (.bool true)], .agg [.lit (.bool false), .lit (.bool false), .lit (.bool false), .lit (.bool true)], .agg [.lit (.bool false), .lit (.bool false), .lit (.bool false), .lit (.bool false)]]

/-- 'boscagelaw30.CallMays': WHATEVER THE INPUT: true; the input reads as it did. -/
def callMaysSpec : ChangeSpec := { name := "callMays", fn := fun _ => fun
  | [d1, d2] => { results := [.lit (.bool true)], args := [d1, d2] }
  | _ => none }
def callMaysRow : OpenClaim := { program := "ytfpjfndelkgciaadoor", sum := "920e6a615c4b9b4a28786134bc339e36e05ad5d2662b116302ba93e4e451eac6", func := "boscage/boscagelaw30.CallMays", spec := "callMays", named := ["boscage/call.used"], apart := false, laid := [("boscage/call.used", laid_boscage_call_used)] }
def CallMaysSaid : Prop := callMaysRow.holds Tryd.pinned (OpenSpec.ofChange callMaysSpec)

/-- ITS FALSE NEIGHBOUR: 'it returns false'. Refute it at one input. -/
def callMaysWrong : ChangeSpec := { name := "callMays", fn := fun _ => fun
  | [d1, d2] => { results := [.lit (.bool false)], args := [d1, d2] }
  | _ => none }
def CallMaysWrongFalsely : Prop := callMaysRow.holds Tryd.pinned (OpenSpec.ofChange callMaysWrong)

/-- 'boscagelaw30.CallCells': WHATEVER THE INPUT: true; the input reads as it did. -/
def callCellsSpec : ChangeSpec := { name := "callCells", fn := fun _ => fun
  | [d1, d2] => { results := [.lit (.bool true)], args := [d1, d2] }
  | _ => none }
def callCellsRow : OpenClaim := { program := "ytfpjfndelkgciaadoor", sum := "920e6a615c4b9b4a28786134bc339e36e05ad5d2662b116302ba93e4e451eac6", func := "boscage/boscagelaw30.CallCells", spec := "callCells", named := ["boscage/call.used"], apart := false, laid := [("boscage/call.used", laid_boscage_call_used)] }
def CallCellsSaid : Prop := callCellsRow.holds Tryd.pinned (OpenSpec.ofChange callCellsSpec)

/-- ITS FALSE NEIGHBOUR: 'it returns false'. Refute it at one input. -/
def callCellsWrong : ChangeSpec := { name := "callCells", fn := fun _ => fun
  | [d1, d2] => { results := [.lit (.bool false)], args := [d1, d2] }
  | _ => none }
def CallCellsWrongFalsely : Prop := callCellsRow.holds Tryd.pinned (OpenSpec.ofChange callCellsWrong)

/-- 'boscagelaw30.CallApart': WHATEVER THE INPUT: true; the input reads as it did. -/
def callApartSpec : ChangeSpec := { name := "callApart", fn := fun _ => fun
  | [d1, d2] => { results := [.lit (.bool true)], args := [d1, d2] }
  | _ => none }
def callApartRow : OpenClaim := { program := "ytfpjfndelkgciaadoor", sum := "920e6a615c4b9b4a28786134bc339e36e05ad5d2662b116302ba93e4e451eac6", func := "boscage/boscagelaw30.CallApart", spec := "callApart", named := ["boscage/call.used"], apart := false, laid := [("boscage/call.used", laid_boscage_call_used)] }
def CallApartSaid : Prop := callApartRow.holds Tryd.pinned (OpenSpec.ofChange callApartSpec)

/-- ITS FALSE NEIGHBOUR: 'it returns false'. Refute it at one input. -/
def callApartWrong : ChangeSpec := { name := "callApart", fn := fun _ => fun
  | [d1, d2] => { results := [.lit (.bool false)], args := [d1, d2] }
  | _ => none }
def CallApartWrongFalsely : Prop := callApartRow.holds Tryd.pinned (OpenSpec.ofChange callApartWrong)

/-- 'boscagelaw42.ScriptDecodes': WHATEVER THE INPUT: true; the input reads as it did. -/
def scriptDecodesSpec : ChangeSpec := { name := "scriptDecodes", fn := fun _ => fun
  | [d] => { results := [.lit (.bool true)], args := [d] }
  | _ => none }
def scriptDecodesRow : OpenClaim := { program := "ytfpjfndelkgciaadoor", sum := "920e6a615c4b9b4a28786134bc339e36e05ad5d2662b116302ba93e4e451eac6", func := "boscage/boscagelaw42.ScriptDecodes", spec := "scriptDecodes", unfollowed := true, recurses := true, named := ["boscage/call.used"], apart := false, laid := [("boscage/call.used", laid_boscage_call_used)] }
def ScriptDecodesSaid : Prop := scriptDecodesRow.holds Tryd.pinned (OpenSpec.ofChange scriptDecodesSpec)

/-- ITS FALSE NEIGHBOUR: 'it returns false'. Refute it at one input. -/
def scriptDecodesWrong : ChangeSpec := { name := "scriptDecodes", fn := fun _ => fun
  | [d] => { results := [.lit (.bool false)], args := [d] }
  | _ => none }
def ScriptDecodesWrongFalsely : Prop := scriptDecodesRow.holds Tryd.pinned (OpenSpec.ofChange scriptDecodesWrong)

/-- 'boscagelaw42.ScriptBack': WHATEVER THE INPUT: true; the input reads as it did. -/
def scriptBackSpec : ChangeSpec := { name := "scriptBack", fn := fun _ => fun
  | [d1, d2] => { results := [.lit (.bool true)], args := [d1, d2] }
  | _ => none }
def scriptBackRow : OpenClaim := { program := "ytfpjfndelkgciaadoor", sum := "920e6a615c4b9b4a28786134bc339e36e05ad5d2662b116302ba93e4e451eac6", func := "boscage/boscagelaw42.ScriptBack", spec := "scriptBack", unfollowed := true, recurses := true, named := ["boscage/call.used"], apart := false, laid := [("boscage/call.used", laid_boscage_call_used)] }
def ScriptBackSaid : Prop := scriptBackRow.holds Tryd.pinned (OpenSpec.ofChange scriptBackSpec)

/-- ITS FALSE NEIGHBOUR: 'it returns false'. Refute it at one input. -/
def scriptBackWrong : ChangeSpec := { name := "scriptBack", fn := fun _ => fun
  | [d1, d2] => { results := [.lit (.bool false)], args := [d1, d2] }
  | _ => none }
def ScriptBackWrongFalsely : Prop := scriptBackRow.holds Tryd.pinned (OpenSpec.ofChange scriptBackWrong)

/-- 'boscagelaw42.ScriptEncodes': WHATEVER THE INPUT: true; the input reads as it did. -/
def scriptEncodesSpec : ChangeSpec := { name := "scriptEncodes", fn := fun _ => fun
  | [d1, d2] => { results := [.lit (.bool true)], args := [d1, d2] }
  | _ => none }
def scriptEncodesRow : OpenClaim := { program := "ytfpjfndelkgciaadoor", sum := "920e6a615c4b9b4a28786134bc339e36e05ad5d2662b116302ba93e4e451eac6", func := "boscage/boscagelaw42.ScriptEncodes", spec := "scriptEncodes", unfollowed := true, recurses := true, named := ["boscage/call.used"], apart := false, laid := [("boscage/call.used", laid_boscage_call_used)] }
def ScriptEncodesSaid : Prop := scriptEncodesRow.holds Tryd.pinned (OpenSpec.ofChange scriptEncodesSpec)

/-- ITS FALSE NEIGHBOUR: 'it returns false'. Refute it at one input. -/
def scriptEncodesWrong : ChangeSpec := { name := "scriptEncodes", fn := fun _ => fun
  | [d1, d2] => { results := [.lit (.bool false)], args := [d1, d2] }
  | _ => none }
def ScriptEncodesWrongFalsely : Prop := scriptEncodesRow.holds Tryd.pinned (OpenSpec.ofChange scriptEncodesWrong)

/- THE SECOND FORM. 'bulk': how many values and letters a reading holds, each counted each time it is reached (what is shared counts as often as it is met; a slice's spare places count too). A statement '..UptoSaid' is the law's where the arguments, and the package variables that the reading takes, are together of bulk at most 1048576: NARROWER than '..Said'. Prove '..Said' where nothing that the law and all that it calls make is longer than what came in: it says more and counts as full. Else prove '..UptoSaid'. A law counts once. -/
mutual
def uptoBulk {H : Type} : DataW H → Nat
  | .lit (.string bytes) => bytes.length + 1
  | .lit _ => 1
  | .nil => 1
  | .ptr d => uptoBulk d + 1
  | .slice elems spare => uptoBulkAll elems + uptoBulkAll spare + 1
  | .agg parts => uptoBulkAll parts + 1
  | .iface _ d => uptoBulk d + 1
  | .map entries => uptoBulkEntries entries + 1
  | .held _ => 1
def uptoBulkAll {H : Type} : List (DataW H) → Nat
  | [] => 0
  | d :: r => uptoBulk d + uptoBulkAll r
def uptoBulkEntries {H : Type} : List (Lit × DataW H) → Nat
  | [] => 0
  | x :: r => uptoBulkEntry x + uptoBulkEntries r
def uptoBulkEntry {H : Type} : Lit × DataW H → Nat
  | (.string bytes, d) => bytes.length + uptoBulk d + 1
  | (_, d) => uptoBulk d + 1
 end
def uptoSmall : (H : Type) → List (DataW H) → Bool := fun _ ds => decide (uptoBulkAll ds ≤ 1048576)
def OpenSpec.upto (s : _root_.Go.ChangeSpec) : _root_.Go.OpenSpec := { _root_.Go.OpenSpec.ofChange s with cond := some uptoSmall }

/-- 'boscagelaw30.CallMays', WHERE WHAT IT READS IS OF BULK AT MOST 1048576: true; the input reads as it did. -/
def callMaysUptoRow : OpenClaim := { program := "ytfpjfndelkgciaadoor", sum := "920e6a615c4b9b4a28786134bc339e36e05ad5d2662b116302ba93e4e451eac6", func := "boscage/boscagelaw30.CallMays", spec := "callMays", named := ["boscage/call.used"], apart := false, laid := [("boscage/call.used", laid_boscage_call_used)], narrowed := true }
def CallMaysUptoSaid : Prop := callMaysUptoRow.holds Tryd.pinned (OpenSpec.upto callMaysSpec)

/-- 'boscagelaw30.CallCells', WHERE WHAT IT READS IS OF BULK AT MOST 1048576: true; the input reads as it did. -/
def callCellsUptoRow : OpenClaim := { program := "ytfpjfndelkgciaadoor", sum := "920e6a615c4b9b4a28786134bc339e36e05ad5d2662b116302ba93e4e451eac6", func := "boscage/boscagelaw30.CallCells", spec := "callCells", named := ["boscage/call.used"], apart := false, laid := [("boscage/call.used", laid_boscage_call_used)], narrowed := true }
def CallCellsUptoSaid : Prop := callCellsUptoRow.holds Tryd.pinned (OpenSpec.upto callCellsSpec)

/-- 'boscagelaw30.CallApart', WHERE WHAT IT READS IS OF BULK AT MOST 1048576: true; the input reads as it did. -/
def callApartUptoRow : OpenClaim := { program := "ytfpjfndelkgciaadoor", sum := "920e6a615c4b9b4a28786134bc339e36e05ad5d2662b116302ba93e4e451eac6", func := "boscage/boscagelaw30.CallApart", spec := "callApart", named := ["boscage/call.used"], apart := false, laid := [("boscage/call.used", laid_boscage_call_used)], narrowed := true }
def CallApartUptoSaid : Prop := callApartUptoRow.holds Tryd.pinned (OpenSpec.upto callApartSpec)

/-- 'boscagelaw42.ScriptDecodes', WHERE WHAT IT READS IS OF BULK AT MOST 1048576: true; the input reads as it did. -/
def scriptDecodesUptoRow : OpenClaim := { program := "ytfpjfndelkgciaadoor", sum := "920e6a615c4b9b4a28786134bc339e36e05ad5d2662b116302ba93e4e451eac6", func := "boscage/boscagelaw42.ScriptDecodes", spec := "scriptDecodes", unfollowed := true, recurses := true, named := ["boscage/call.used"], apart := false, laid := [("boscage/call.used", laid_boscage_call_used)], narrowed := true }
def ScriptDecodesUptoSaid : Prop := scriptDecodesUptoRow.holds Tryd.pinned (OpenSpec.upto scriptDecodesSpec)

/-- 'boscagelaw42.ScriptBack', WHERE WHAT IT READS IS OF BULK AT MOST 1048576: true; the input reads as it did. -/
def scriptBackUptoRow : OpenClaim := { program := "ytfpjfndelkgciaadoor", sum := "920e6a615c4b9b4a28786134bc339e36e05ad5d2662b116302ba93e4e451eac6", func := "boscage/boscagelaw42.ScriptBack", spec := "scriptBack", unfollowed := true, recurses := true, named := ["boscage/call.used"], apart := false, laid := [("boscage/call.used", laid_boscage_call_used)], narrowed := true }
def ScriptBackUptoSaid : Prop := scriptBackUptoRow.holds Tryd.pinned (OpenSpec.upto scriptBackSpec)

/-- 'boscagelaw42.ScriptEncodes', WHERE WHAT IT READS IS OF BULK AT MOST 1048576: true; the input reads as it did. -/
def scriptEncodesUptoRow : OpenClaim := { program := "ytfpjfndelkgciaadoor", sum := "920e6a615c4b9b4a28786134bc339e36e05ad5d2662b116302ba93e4e451eac6", func := "boscage/boscagelaw42.ScriptEncodes", spec := "scriptEncodes", unfollowed := true, recurses := true, named := ["boscage/call.used"], apart := false, laid := [("boscage/call.used", laid_boscage_call_used)], narrowed := true }
def ScriptEncodesUptoSaid : Prop := scriptEncodesUptoRow.holds Tryd.pinned (OpenSpec.upto scriptEncodesSpec)

end Rows
end Go.Proofs.YtfpjfndelkgciaaDoor
