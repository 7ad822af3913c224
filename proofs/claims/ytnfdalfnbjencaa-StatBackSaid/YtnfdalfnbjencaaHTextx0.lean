/- Text: out of the translation, by a program of this session (wip/tools/mp.py) over the kit's print program; contracts of replaced functions are proved by hand. -/
import Derived.Test.YtnfdalfnbjencaaProg
import Derived.Below
import Derived.Deep.Draws
import Derived.Deep.AppendLies
import Derived.Maps.AppendAt
import Derived.OwnWalk
import Derived.Laws.BytesArg
import Derived.Laws.MakeOwn
import Derived.Laws.OwnMore
import Derived.Deep.OwnRows
import Derived.Tactics
import Derived.Lib.ConvBytes
import Derived.Laws.Slices
import Derived.WalkKit
import Derived.KernelRfl
import Derived.RowKit3
import Derived.Deep.LoopGhost
import Derived.Deep.QuietTactic
import Derived.BigQuiet
import Derived.WideLaws
import Derived.Deep.DeepCutAuto
import Derived.Deep.CutBlock
import Derived.Deep.RegionHeld3
import Derived.Laws.Rows
import Derived.Lib.AppendStr
import Derived.ArgAppend
import Derived.Laws.IdiomCopy
import Derived.OrdersHeld
import Derived.Laws.BitsLemmas
import Derived.RowKit
import Derived.Test.YtnfdalfnbjencaaTextF
import Derived.Test.YtnfdalfnbjencaaWWords
import Derived.Test.YtnfdalfnbjencaaWLast
import Derived.Test.YtnfdalfnbjencaaWTab
import Derived.Test.YtnfdalfnbjencaaWFour
import Derived.Test.YtnfdalfnbjencaaWQPut
import Derived.Test.YtnfdalfnbjencaaWApart
import Derived.Test.YtnfdalfnbjencaaWArr
import Derived.Test.YtnfdalfnbjencaaWZeros
import Derived.Test.YtnfdalfnbjencaaWFoot
import Derived.Test.YtnfdalfnbjencaaWKept
import Derived.Test.YtnfdalfnbjencaaWShare
import Derived.Test.YtnfdalfnbjencaaWN
import Derived.Test.YtnfdalfnbjencaaWFootNe
import Derived.Test.YtnfdalfnbjencaaWAt
import Derived.Test.YtnfdalfnbjencaaWEqStruct
import Derived.Test.YtnfdalfnbjencaaWRepsOne
import Derived.Test.YtnfdalfnbjencaaWInv
import Derived.Test.YtnfdalfnbjencaaWInvWords
import Derived.Test.YtnfdalfnbjencaaWGuard
import Derived.Test.YtnfdalfnbjencaaWNEv
import Derived.Test.YtnfdalfnbjencaaWMore
namespace Go.Proofs.Ytnfdalfnbjencaa.HText
open Go.RowKit Go.Proofs.YtnfdalfnbjencaaW.PrintWords Go.Proofs.YtnfdalfnbjencaaW.PrintLast Go.Proofs.YtnfdalfnbjencaaW.PrintMore
attribute [local go_sem] max2_int min2_int max_two min_two max_three min_three max_four min_four   -- for this text's walks alone
set_option linter.unusedVariables false
set_option linter.unusedSimpArgs false



def errW : Option Int → Value
  | none => .nilIface
  | some c => .iface 0 (.int .i64 c)
theorem errW_none : errW none = .nilIface := rfl
theorem errW_some (c : Int) : errW (some c) = .iface 0 (.int .i64 c) := rfl

theorem info5 : (Try.prog.info? 5).map (fun i => (i.zero, i.size, i.bytes)) = some (some (.int .u8 0), 1, 1) := by kernel_rfl
-- the values' own types

end Go.Proofs.Ytnfdalfnbjencaa.HText
