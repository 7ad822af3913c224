/- The walks of CodeMakes, CodeParses, CodeBack, closed by the plain law. -/
import Derived.Test.YtfpjfndelkgciaaCodePr
import Derived.Test.YtfpjfndelkgciaaCodeRow
namespace Go.Proofs.Ytfpjfndelkgciaa.Fw
open Go.RowKit Go.Proofs.Ytfpjfndelkgciaa.HCode Go.Proofs.YtfpjfndelkgciaaW.PrintWords
set_option linter.unusedVariables false

theorem CodeMakes (K N F : Int) (S : ByteArray) (w : World) (wN : (Lit.int .i64 N).wf = true) (wF : (Lit.int .u64 F).wf = true) :
    Calls Try.prog 3 #[.agg #[.int .i64 K, .int .i64 N, .int .u64 F, .string S]] w fun e w' => e = .returned (.bool true) ∧ Below w.heap.size w w' :=
  boscagelaw03_CodeMakes.calls 20 K N F S true w (Pure.CodeMakes K N F S (wf_i64 wN).1 (wf_i64 wN).2 (wf_u64 wF).1 (wf_u64 wF).2)
theorem CodeBack (K N F : Int) (S : ByteArray) (w : World) (wN : (Lit.int .i64 N).wf = true) (wF : (Lit.int .u64 F).wf = true) :
    Calls Try.prog 5 #[.agg #[.int .i64 K, .int .i64 N, .int .u64 F, .string S]] w fun e w' => e = .returned (.bool true) ∧ Below w.heap.size w w' :=
  boscagelaw03_CodeBack.calls 20 K N F S true w (Pure.CodeBack K N F S (wf_i64 wN).1 (wf_i64 wN).2 (wf_u64 wF).1 (wf_u64 wF).2)
theorem CodeParses (a : ByteArray) (w : World) (wa : a.size ≤ 140737488351232) :
    Calls Try.prog 4 #[.string a] w fun e w' => e = .returned (.bool true) ∧ Below w.heap.size w w' :=
  boscagelaw03_CodeParses.calls 20 a true w (Pure.CodeParses a)

end Go.Proofs.Ytfpjfndelkgciaa.Fw
