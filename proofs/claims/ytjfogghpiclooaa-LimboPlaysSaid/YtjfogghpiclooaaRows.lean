/-
  No cell of these rows narrows 'for every input' (looked for: loops, veiled, ifaces, maps, wideKeys, modest, calm, conditions, laid).
  DERIVED. THE GIVEN ROWS OF THIS SEAT. 4 by the template 'for every input the law returns true; each argument reads behind the call as it read before'; 0 by the template 'total and deterministic' (their statements: YtjfogghpiclooaaTotals.lean).
  GIVEN WITH THE SEED: the statements are not yours to turn. If you find one false, say at which input.
  Laid BY PROGRAM, IN A SANDBOX (cutbox-rows.mjs): the forced cells as the released guide's own fill.sh prints them over the translation 7399ce971a94e78b… (all of the seat's roots in one cut). By AI agents, Wed Nov 11 2026. No macro, syntax, notation, axiom, sorry.
-/
import Derived.Test.YtjfogghpiclooaaChecked
import GoSem.Claim
import GoSem.ClaimJoined
import GoSem.ClaimMapViews
import Derived.JoinedTies
import Derived.KernelRfl
namespace Go.Proofs.Ytjfogghpiclooaa
/- THE CELL 'sum', in the pinned program and in every row, IS THE sha256 OF THE DUMP (.gsa) THAT YtjfogghpiclooaaProg.lean LOADS. Nothing in Lean hashes anything: it is a label: what it is worth is what the hold of that sum in a sandbox is worth. -/
noncomputable def Try.pinned : Pinned := { name := "ytjfogghpiclooaa", sum := "7399ce971a94e78bd2c6c101e309ddf3365aac2634de3674fd4e19599251d181", checked := Try.checked }
namespace Rows
def none {H : Type} : Left H := { results := [], args := [] }

/-- 'boscagelaw16.LimboSplits': WHATEVER THE INPUT: true; the input reads as it did. -/
def limboSplitsSpec : ChangeSpec := { name := "limboSplits", fn := fun _ => fun
  | [d1, d2, d3] => { results := [.lit (.bool true)], args := [d1, d2, d3] }
  | _ => none }
def limboSplitsRow : OpenClaim := { program := "ytjfogghpiclooaa", sum := "7399ce971a94e78bd2c6c101e309ddf3365aac2634de3674fd4e19599251d181", func := "boscage/boscagelaw16.LimboSplits", spec := "limboSplits", unfollowed := true, recurses := true, apart := false }
def LimboSplitsSaid : Prop := limboSplitsRow.holds Try.pinned (OpenSpec.ofChange limboSplitsSpec)

/-- ITS FALSE NEIGHBOUR: 'it returns false'. Refute it at one input. -/
def limboSplitsWrong : ChangeSpec := { name := "limboSplits", fn := fun _ => fun
  | [d1, d2, d3] => { results := [.lit (.bool false)], args := [d1, d2, d3] }
  | _ => none }
def LimboSplitsWrongFalsely : Prop := limboSplitsRow.holds Try.pinned (OpenSpec.ofChange limboSplitsWrong)

/-- 'boscagelaw16.LimboOnce': WHATEVER THE INPUT: true; the input reads as it did. -/
def limboOnceSpec : ChangeSpec := { name := "limboOnce", fn := fun _ => fun
  | [d1, d2, d3] => { results := [.lit (.bool true)], args := [d1, d2, d3] }
  | _ => none }
def limboOnceRow : OpenClaim := { program := "ytjfogghpiclooaa", sum := "7399ce971a94e78bd2c6c101e309ddf3365aac2634de3674fd4e19599251d181", func := "boscage/boscagelaw16.LimboOnce", spec := "limboOnce", unfollowed := true, recurses := true, apart := false }
def LimboOnceSaid : Prop := limboOnceRow.holds Try.pinned (OpenSpec.ofChange limboOnceSpec)

/-- ITS FALSE NEIGHBOUR: 'it returns false'. Refute it at one input. -/
def limboOnceWrong : ChangeSpec := { name := "limboOnce", fn := fun _ => fun
  | [d1, d2, d3] => { results := [.lit (.bool false)], args := [d1, d2, d3] }
  | _ => none }
def LimboOnceWrongFalsely : Prop := limboOnceRow.holds Try.pinned (OpenSpec.ofChange limboOnceWrong)

/-- 'boscagelaw16.LimboPlays': WHATEVER THE INPUT: true; the input reads as it did. -/
def limboPlaysSpec : ChangeSpec := { name := "limboPlays", fn := fun _ => fun
  | [d1, d2] => { results := [.lit (.bool true)], args := [d1, d2] }
  | _ => none }
def limboPlaysRow : OpenClaim := { program := "ytjfogghpiclooaa", sum := "7399ce971a94e78bd2c6c101e309ddf3365aac2634de3674fd4e19599251d181", func := "boscage/boscagelaw16.LimboPlays", spec := "limboPlays", unfollowed := true, recurses := true, apart := false }
def LimboPlaysSaid : Prop := limboPlaysRow.holds Try.pinned (OpenSpec.ofChange limboPlaysSpec)

/-- ITS FALSE NEIGHBOUR: 'it returns false'. Refute it at one input. -/
def limboPlaysWrong : ChangeSpec := { name := "limboPlays", fn := fun _ => fun
  | [d1, d2] => { results := [.lit (.bool false)], args := [d1, d2] }
  | _ => none }
def LimboPlaysWrongFalsely : Prop := limboPlaysRow.holds Try.pinned (OpenSpec.ofChange limboPlaysWrong)

/-- 'boscagelaw16.LimboNew': WHATEVER THE INPUT: true; the input reads as it did. -/
def limboNewSpec : ChangeSpec := { name := "limboNew", fn := fun _ => fun
  | [d1, d2] => { results := [.lit (.bool true)], args := [d1, d2] }
  | _ => none }
def limboNewRow : OpenClaim := { program := "ytjfogghpiclooaa", sum := "7399ce971a94e78bd2c6c101e309ddf3365aac2634de3674fd4e19599251d181", func := "boscage/boscagelaw16.LimboNew", spec := "limboNew", unfollowed := true, recurses := true, apart := false }
def LimboNewSaid : Prop := limboNewRow.holds Try.pinned (OpenSpec.ofChange limboNewSpec)

/-- ITS FALSE NEIGHBOUR: 'it returns false'. Refute it at one input. -/
def limboNewWrong : ChangeSpec := { name := "limboNew", fn := fun _ => fun
  | [d1, d2] => { results := [.lit (.bool false)], args := [d1, d2] }
  | _ => none }
def LimboNewWrongFalsely : Prop := limboNewRow.holds Try.pinned (OpenSpec.ofChange limboNewWrong)

/- THE SECOND FORM. 'bulk': how many values and letters a reading holds, each counted each time it is reached (what is shared counts as often as it is met; a slice's spare places count too). A statement '..UptoSaid' is the law's where the arguments, and the package variables that the reading takes, are together of bulk at most 1048576: NARROWER than '..Said'. Prove '..Said' where nothing that the law and all that it calls make is longer than what came in: it says more and counts as full. Else prove '..UptoSaid'. A law counts once. -/
mutual
def uptoBulk {H : Type} : DataW H → Nat
  | .lit (.string bytes) => bytes.length + 1
  | .lit _ => 1
  | .nil => 1
  | .ptr d => uptoBulk d + 1
  | .slice elems spare => uptoBulkAll elems + uptoBulkAll spare + 1
  | .agg parts => uptoBulkAll parts + 1
  | .iface _ d => uptoBulk d + 1
  | .map entries => uptoBulkEntries entries + 1
  | .held _ => 1
def uptoBulkAll {H : Type} : List (DataW H) → Nat
  | [] => 0
  | d :: r => uptoBulk d + uptoBulkAll r
def uptoBulkEntries {H : Type} : List (Lit × DataW H) → Nat
  | [] => 0
  | x :: r => uptoBulkEntry x + uptoBulkEntries r
def uptoBulkEntry {H : Type} : Lit × DataW H → Nat
  | (.string bytes, d) => bytes.length + uptoBulk d + 1
  | (_, d) => uptoBulk d + 1
 end
def uptoSmall : (H : Type) → List (DataW H) → Bool := fun _ ds => decide (uptoBulkAll ds ≤ 1048576)
def OpenSpec.upto (s : _root_.Go.ChangeSpec) : _root_.Go.OpenSpec := { _root_.Go.OpenSpec.ofChange s with cond := some uptoSmall }

/-- 'boscagelaw16.LimboSplits', WHERE WHAT IT READS IS OF BULK AT MOST 1048576: true; the input reads as it did. -/
def limboSplitsUptoRow : OpenClaim := { program := "ytjfogghpiclooaa", sum := "7399ce971a94e78bd2c6c101e309ddf3365aac2634de3674fd4e19599251d181", func := "boscage/boscagelaw16.LimboSplits", spec := "limboSplits", unfollowed := true, recurses := true, apart := false, narrowed := true }
def LimboSplitsUptoSaid : Prop := limboSplitsUptoRow.holds Try.pinned (OpenSpec.upto limboSplitsSpec)

/-- 'boscagelaw16.LimboOnce', WHERE WHAT IT READS IS OF BULK AT MOST 1048576: true; the input reads as it did. -/
def limboOnceUptoRow : OpenClaim := { program := "ytjfogghpiclooaa", sum := "7399ce971a94e78bd2c6c101e309ddf3365aac2634de3674fd4e19599251d181", func := "boscage/boscagelaw16.LimboOnce", spec := "limboOnce", unfollowed := true, recurses := true, apart := false, narrowed := true }
def LimboOnceUptoSaid : Prop := limboOnceUptoRow.holds Try.pinned (OpenSpec.upto limboOnceSpec)

/-- 'boscagelaw16.LimboPlays', WHERE WHAT IT READS IS OF BULK AT MOST 1048576: true; the input reads as it did. -/
def limboPlaysUptoRow : OpenClaim := { program := "ytjfogghpiclooaa", sum := "7399ce971a94e78bd2c6c101e309ddf3365aac2634de3674fd4e19599251d181", func := "boscage/boscagelaw16.LimboPlays", spec := "limboPlays", unfollowed := true, recurses := true, apart := false, narrowed := true }
def LimboPlaysUptoSaid : Prop := limboPlaysUptoRow.holds Try.pinned (OpenSpec.upto limboPlaysSpec)

/-- 'boscagelaw16.LimboNew', WHERE WHAT IT READS IS OF BULK AT MOST 1048576: true; the input reads as it did. -/
def limboNewUptoRow : OpenClaim := { program := "ytjfogghpiclooaa", sum := "7399ce971a94e78bd2c6c101e309ddf3365aac2634de3674fd4e19599251d181", func := "boscage/boscagelaw16.LimboNew", spec := "limboNew", unfollowed := true, recurses := true, apart := false, narrowed := true }
def LimboNewUptoSaid : Prop := limboNewUptoRow.holds Try.pinned (OpenSpec.upto limboNewSpec)

end Rows
end Go.Proofs.Ytjfogghpiclooaa
