/-
  No cell of these rows narrows 'for every input' (looked for: loops, veiled, ifaces, maps, wideKeys, modest, calm, conditions, laid).
  DERIVED. THE GIVEN ROWS OF THIS SEAT. 8 by the template 'for every input the law returns true; each argument reads behind the call as it read before'; 0 by the template 'total and deterministic' (their statements: YtnfdalfnbjencaaTotals.lean).
  GIVEN WITH THE SEED: the statements are not yours to turn. If you find one false, say at which input.
  Laid BY PROGRAM, IN A SANDBOX (cutbox-rows.mjs): the forced cells as the released guide's own fill.sh prints them over the translation c950ad34d45218a0… (all of the seat's roots in one cut). By AI agents, Wed Nov 11 2026. No macro, syntax, notation, axiom, sorry.
-/
import Derived.Test.YtnfdalfnbjencaaChecked
import GoSem.Claim
import GoSem.ClaimJoined
import GoSem.ClaimMapViews
import Derived.JoinedTies
import Derived.KernelRfl
namespace Go.Proofs.Ytnfdalfnbjencaa
/- THE CELL 'sum', in the pinned program and in every row, IS THE sha256 OF THE DUMP (.gsa) THAT YtnfdalfnbjencaaProg.lean LOADS. Nothing in Lean hashes anything: it is a label: what it is worth is what the hold of that sum in a sandbox is worth. -/
noncomputable def Try.pinned : Pinned := { name := "ytnfdalfnbjencaa", sum := "c950ad34d45218a0b5bb8c521da97b1ffa2270136d78b54eef87ca5520fe66a9", checked := Try.checked }
namespace Rows
def none {H : Type} : Left H := { results := [], args := [] }

/-- 'boscagelaw02.FloatRanks': WHATEVER THE INPUT: true; the input reads as it did. -/
def floatRanksSpec : ChangeSpec := { name := "floatRanks", fn := fun _ => fun
  | [d1, d2] => { results := [.lit (.bool true)], args := [d1, d2] }
  | _ => none }
def floatRanksRow : OpenClaim := { program := "ytnfdalfnbjencaa", sum := "c950ad34d45218a0b5bb8c521da97b1ffa2270136d78b54eef87ca5520fe66a9", func := "boscage/boscagelaw02.FloatRanks", spec := "floatRanks", inPlace := ["math.Float64frombits", "math.Float64bits"], unfollowed := true, recurses := true, apart := false }
def FloatRanksSaid : Prop := floatRanksRow.holds Try.pinned (OpenSpec.ofChange floatRanksSpec)

/-- ITS FALSE NEIGHBOUR: 'it returns false'. Refute it at one input. -/
def floatRanksWrong : ChangeSpec := { name := "floatRanks", fn := fun _ => fun
  | [d1, d2] => { results := [.lit (.bool false)], args := [d1, d2] }
  | _ => none }
def FloatRanksWrongFalsely : Prop := floatRanksRow.holds Try.pinned (OpenSpec.ofChange floatRanksWrong)

/-- 'boscagelaw02.FloatBest': WHATEVER THE INPUT: true; the input reads as it did. -/
def floatBestSpec : ChangeSpec := { name := "floatBest", fn := fun _ => fun
  | [d] => { results := [.lit (.bool true)], args := [d] }
  | _ => none }
def floatBestRow : OpenClaim := { program := "ytnfdalfnbjencaa", sum := "c950ad34d45218a0b5bb8c521da97b1ffa2270136d78b54eef87ca5520fe66a9", func := "boscage/boscagelaw02.FloatBest", spec := "floatBest", inPlace := ["math.Float64frombits", "math.Float64bits"], unfollowed := true, recurses := true, apart := false }
def FloatBestSaid : Prop := floatBestRow.holds Try.pinned (OpenSpec.ofChange floatBestSpec)

/-- ITS FALSE NEIGHBOUR: 'it returns false'. Refute it at one input. -/
def floatBestWrong : ChangeSpec := { name := "floatBest", fn := fun _ => fun
  | [d] => { results := [.lit (.bool false)], args := [d] }
  | _ => none }
def FloatBestWrongFalsely : Prop := floatBestRow.holds Try.pinned (OpenSpec.ofChange floatBestWrong)

/-- 'boscagelaw02.FloatUnranks': WHATEVER THE INPUT: true; the input reads as it did. -/
def floatUnranksSpec : ChangeSpec := { name := "floatUnranks", fn := fun _ => fun
  | [d] => { results := [.lit (.bool true)], args := [d] }
  | _ => none }
def floatUnranksRow : OpenClaim := { program := "ytnfdalfnbjencaa", sum := "c950ad34d45218a0b5bb8c521da97b1ffa2270136d78b54eef87ca5520fe66a9", func := "boscage/boscagelaw02.FloatUnranks", spec := "floatUnranks", inPlace := ["math.Float64frombits", "math.Float64bits"], unfollowed := true, recurses := true, apart := false }
def FloatUnranksSaid : Prop := floatUnranksRow.holds Try.pinned (OpenSpec.ofChange floatUnranksSpec)

/-- ITS FALSE NEIGHBOUR: 'it returns false'. Refute it at one input. -/
def floatUnranksWrong : ChangeSpec := { name := "floatUnranks", fn := fun _ => fun
  | [d] => { results := [.lit (.bool false)], args := [d] }
  | _ => none }
def FloatUnranksWrongFalsely : Prop := floatUnranksRow.holds Try.pinned (OpenSpec.ofChange floatUnranksWrong)

/-- 'boscagelaw41.StatOf': WHATEVER THE INPUT: true; the input reads as it did. -/
def statOfSpec : ChangeSpec := { name := "statOf", fn := fun _ => fun
  | [d] => { results := [.lit (.bool true)], args := [d] }
  | _ => none }
def statOfRow : OpenClaim := { program := "ytnfdalfnbjencaa", sum := "c950ad34d45218a0b5bb8c521da97b1ffa2270136d78b54eef87ca5520fe66a9", func := "boscage/boscagelaw41.StatOf", spec := "statOf", inPlace := ["math.Float64frombits", "math.Float64bits"], unfollowed := true, recurses := true, apart := false }
def StatOfSaid : Prop := statOfRow.holds Try.pinned (OpenSpec.ofChange statOfSpec)

/-- ITS FALSE NEIGHBOUR: 'it returns false'. Refute it at one input. -/
def statOfWrong : ChangeSpec := { name := "statOf", fn := fun _ => fun
  | [d] => { results := [.lit (.bool false)], args := [d] }
  | _ => none }
def StatOfWrongFalsely : Prop := statOfRow.holds Try.pinned (OpenSpec.ofChange statOfWrong)

/-- 'boscagelaw02.FloatBack': WHATEVER THE INPUT: true; the input reads as it did. -/
def floatBackSpec : ChangeSpec := { name := "floatBack", fn := fun _ => fun
  | [d1, d2] => { results := [.lit (.bool true)], args := [d1, d2] }
  | _ => none }
def floatBackRow : OpenClaim := { program := "ytnfdalfnbjencaa", sum := "c950ad34d45218a0b5bb8c521da97b1ffa2270136d78b54eef87ca5520fe66a9", func := "boscage/boscagelaw02.FloatBack", spec := "floatBack", inPlace := ["math.Float64bits", "math.Float64frombits"], unfollowed := true, recurses := true, apart := false }
def FloatBackSaid : Prop := floatBackRow.holds Try.pinned (OpenSpec.ofChange floatBackSpec)

/-- ITS FALSE NEIGHBOUR: 'it returns false'. Refute it at one input. -/
def floatBackWrong : ChangeSpec := { name := "floatBack", fn := fun _ => fun
  | [d1, d2] => { results := [.lit (.bool false)], args := [d1, d2] }
  | _ => none }
def FloatBackWrongFalsely : Prop := floatBackRow.holds Try.pinned (OpenSpec.ofChange floatBackWrong)

/-- 'boscagelaw41.StatTexts': WHATEVER THE INPUT: true; the input reads as it did. -/
def statTextsSpec : ChangeSpec := { name := "statTexts", fn := fun _ => fun
  | [d1, d2] => { results := [.lit (.bool true)], args := [d1, d2] }
  | _ => none }
def statTextsRow : OpenClaim := { program := "ytnfdalfnbjencaa", sum := "c950ad34d45218a0b5bb8c521da97b1ffa2270136d78b54eef87ca5520fe66a9", func := "boscage/boscagelaw41.StatTexts", spec := "statTexts", inPlace := ["math.Float64frombits", "math.Float64bits"], unfollowed := true, recurses := true, apart := false }
def StatTextsSaid : Prop := statTextsRow.holds Try.pinned (OpenSpec.ofChange statTextsSpec)

/-- ITS FALSE NEIGHBOUR: 'it returns false'. Refute it at one input. -/
def statTextsWrong : ChangeSpec := { name := "statTexts", fn := fun _ => fun
  | [d1, d2] => { results := [.lit (.bool false)], args := [d1, d2] }
  | _ => none }
def StatTextsWrongFalsely : Prop := statTextsRow.holds Try.pinned (OpenSpec.ofChange statTextsWrong)

/-- 'boscagelaw41.StatMiddle': WHATEVER THE INPUT: true; the input reads as it did. -/
def statMiddleSpec : ChangeSpec := { name := "statMiddle", fn := fun _ => fun
  | [d1, d2, d3] => { results := [.lit (.bool true)], args := [d1, d2, d3] }
  | _ => none }
def statMiddleRow : OpenClaim := { program := "ytnfdalfnbjencaa", sum := "c950ad34d45218a0b5bb8c521da97b1ffa2270136d78b54eef87ca5520fe66a9", func := "boscage/boscagelaw41.StatMiddle", spec := "statMiddle", inPlace := ["math.Float64frombits", "math.Float64bits"], unfollowed := true, recurses := true, apart := false }
def StatMiddleSaid : Prop := statMiddleRow.holds Try.pinned (OpenSpec.ofChange statMiddleSpec)

/-- ITS FALSE NEIGHBOUR: 'it returns false'. Refute it at one input. -/
def statMiddleWrong : ChangeSpec := { name := "statMiddle", fn := fun _ => fun
  | [d1, d2, d3] => { results := [.lit (.bool false)], args := [d1, d2, d3] }
  | _ => none }
def StatMiddleWrongFalsely : Prop := statMiddleRow.holds Try.pinned (OpenSpec.ofChange statMiddleWrong)

/-- 'boscagelaw41.StatBack': WHATEVER THE INPUT: true; the input reads as it did. -/
def statBackSpec : ChangeSpec := { name := "statBack", fn := fun _ => fun
  | [d1, d2, d3] => { results := [.lit (.bool true)], args := [d1, d2, d3] }
  | _ => none }
def statBackRow : OpenClaim := { program := "ytnfdalfnbjencaa", sum := "c950ad34d45218a0b5bb8c521da97b1ffa2270136d78b54eef87ca5520fe66a9", func := "boscage/boscagelaw41.StatBack", spec := "statBack", inPlace := ["math.Float64frombits", "math.Float64bits"], unfollowed := true, recurses := true, apart := false }
def StatBackSaid : Prop := statBackRow.holds Try.pinned (OpenSpec.ofChange statBackSpec)

/-- ITS FALSE NEIGHBOUR: 'it returns false'. Refute it at one input. -/
def statBackWrong : ChangeSpec := { name := "statBack", fn := fun _ => fun
  | [d1, d2, d3] => { results := [.lit (.bool false)], args := [d1, d2, d3] }
  | _ => none }
def StatBackWrongFalsely : Prop := statBackRow.holds Try.pinned (OpenSpec.ofChange statBackWrong)

/- THE SECOND FORM. 'bulk': how many values and letters a reading holds, each counted each time it is reached (what is shared counts as often as it is met; a slice's spare places count too). A statement '..UptoSaid' is the law's where the arguments, and the package variables that the reading takes, are together of bulk at most 1048576: NARROWER than '..Said'. Prove '..Said' where nothing that the law and all that it calls make is longer than what came in: it says more and counts as full. Else prove '..UptoSaid'. A law counts once. -/
mutual
def uptoBulk {H : Type} : DataW H → Nat
  | .lit (.string bytes) => bytes.length + 1
  | .lit _ => 1
  | .nil => 1
  | .ptr d => uptoBulk d + 1
  | .slice elems spare => uptoBulkAll elems + uptoBulkAll spare + 1
  | .agg parts => uptoBulkAll parts + 1
  | .iface _ d => uptoBulk d + 1
  | .map entries => uptoBulkEntries entries + 1
  | .held _ => 1
def uptoBulkAll {H : Type} : List (DataW H) → Nat
  | [] => 0
  | d :: r => uptoBulk d + uptoBulkAll r
def uptoBulkEntries {H : Type} : List (Lit × DataW H) → Nat
  | [] => 0
  | x :: r => uptoBulkEntry x + uptoBulkEntries r
def uptoBulkEntry {H : Type} : Lit × DataW H → Nat
  | (.string bytes, d) => bytes.length + uptoBulk d + 1
  | (_, d) => uptoBulk d + 1
 end
def uptoSmall : (H : Type) → List (DataW H) → Bool := fun _ ds => decide (uptoBulkAll ds ≤ 1048576)
def OpenSpec.upto (s : _root_.Go.ChangeSpec) : _root_.Go.OpenSpec := { _root_.Go.OpenSpec.ofChange s with cond := some uptoSmall }

/-- 'boscagelaw02.FloatRanks', WHERE WHAT IT READS IS OF BULK AT MOST 1048576: true; the input reads as it did. -/
def floatRanksUptoRow : OpenClaim := { program := "ytnfdalfnbjencaa", sum := "c950ad34d45218a0b5bb8c521da97b1ffa2270136d78b54eef87ca5520fe66a9", func := "boscage/boscagelaw02.FloatRanks", spec := "floatRanks", inPlace := ["math.Float64frombits", "math.Float64bits"], unfollowed := true, recurses := true, apart := false, narrowed := true }
def FloatRanksUptoSaid : Prop := floatRanksUptoRow.holds Try.pinned (OpenSpec.upto floatRanksSpec)

/-- 'boscagelaw02.FloatBest', WHERE WHAT IT READS IS OF BULK AT MOST 1048576: true; the input reads as it did. -/
def floatBestUptoRow : OpenClaim := { program := "ytnfdalfnbjencaa", sum := "c950ad34d45218a0b5bb8c521da97b1ffa2270136d78b54eef87ca5520fe66a9", func := "boscage/boscagelaw02.FloatBest", spec := "floatBest", inPlace := ["math.Float64frombits", "math.Float64bits"], unfollowed := true, recurses := true, apart := false, narrowed := true }
def FloatBestUptoSaid : Prop := floatBestUptoRow.holds Try.pinned (OpenSpec.upto floatBestSpec)

/-- 'boscagelaw02.FloatUnranks', WHERE WHAT IT READS IS OF BULK AT MOST 1048576: true; the input reads as it did. -/
def floatUnranksUptoRow : OpenClaim := { program := "ytnfdalfnbjencaa", sum := "c950ad34d45218a0b5bb8c521da97b1ffa2270136d78b54eef87ca5520fe66a9", func := "boscage/boscagelaw02.FloatUnranks", spec := "floatUnranks", inPlace := ["math.Float64frombits", "math.Float64bits"], unfollowed := true, recurses := true, apart := false, narrowed := true }
def FloatUnranksUptoSaid : Prop := floatUnranksUptoRow.holds Try.pinned (OpenSpec.upto floatUnranksSpec)

/-- 'boscagelaw41.StatOf', WHERE WHAT IT READS IS OF BULK AT MOST 1048576: true; the input reads as it did. -/
def statOfUptoRow : OpenClaim := { program := "ytnfdalfnbjencaa", sum := "c950ad34d45218a0b5bb8c521da97b1ffa2270136d78b54eef87ca5520fe66a9", func := "boscage/boscagelaw41.StatOf", spec := "statOf", inPlace := ["math.Float64frombits", "math.Float64bits"], unfollowed := true, recurses := true, apart := false, narrowed := true }
def StatOfUptoSaid : Prop := statOfUptoRow.holds Try.pinned (OpenSpec.upto statOfSpec)

/-- 'boscagelaw02.FloatBack', WHERE WHAT IT READS IS OF BULK AT MOST 1048576: true; the input reads as it did. -/
def floatBackUptoRow : OpenClaim := { program := "ytnfdalfnbjencaa", sum := "c950ad34d45218a0b5bb8c521da97b1ffa2270136d78b54eef87ca5520fe66a9", func := "boscage/boscagelaw02.FloatBack", spec := "floatBack", inPlace := ["math.Float64bits", "math.Float64frombits"], unfollowed := true, recurses := true, apart := false, narrowed := true }
def FloatBackUptoSaid : Prop := floatBackUptoRow.holds Try.pinned (OpenSpec.upto floatBackSpec)

/-- 'boscagelaw41.StatTexts', WHERE WHAT IT READS IS OF BULK AT MOST 1048576: true; the input reads as it did. -/
def statTextsUptoRow : OpenClaim := { program := "ytnfdalfnbjencaa", sum := "c950ad34d45218a0b5bb8c521da97b1ffa2270136d78b54eef87ca5520fe66a9", func := "boscage/boscagelaw41.StatTexts", spec := "statTexts", inPlace := ["math.Float64frombits", "math.Float64bits"], unfollowed := true, recurses := true, apart := false, narrowed := true }
def StatTextsUptoSaid : Prop := statTextsUptoRow.holds Try.pinned (OpenSpec.upto statTextsSpec)

/-- 'boscagelaw41.StatMiddle', WHERE WHAT IT READS IS OF BULK AT MOST 1048576: true; the input reads as it did. -/
def statMiddleUptoRow : OpenClaim := { program := "ytnfdalfnbjencaa", sum := "c950ad34d45218a0b5bb8c521da97b1ffa2270136d78b54eef87ca5520fe66a9", func := "boscage/boscagelaw41.StatMiddle", spec := "statMiddle", inPlace := ["math.Float64frombits", "math.Float64bits"], unfollowed := true, recurses := true, apart := false, narrowed := true }
def StatMiddleUptoSaid : Prop := statMiddleUptoRow.holds Try.pinned (OpenSpec.upto statMiddleSpec)

/-- 'boscagelaw41.StatBack', WHERE WHAT IT READS IS OF BULK AT MOST 1048576: true; the input reads as it did. -/
def statBackUptoRow : OpenClaim := { program := "ytnfdalfnbjencaa", sum := "c950ad34d45218a0b5bb8c521da97b1ffa2270136d78b54eef87ca5520fe66a9", func := "boscage/boscagelaw41.StatBack", spec := "statBack", inPlace := ["math.Float64frombits", "math.Float64bits"], unfollowed := true, recurses := true, apart := false, narrowed := true }
def StatBackUptoSaid : Prop := statBackUptoRow.holds Try.pinned (OpenSpec.upto statBackSpec)

end Rows
end Go.Proofs.Ytnfdalfnbjencaa
