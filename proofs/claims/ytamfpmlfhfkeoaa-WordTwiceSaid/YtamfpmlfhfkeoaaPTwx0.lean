/- Written by this session's own program (wip/tools/pr.sh) for this claim: functions of the Go program as plain Lean functions, and that the calls come to what these say; in a Law text: the given statement. Conditions: none but the hypotheses that each theorem states. -/
import Derived.Test.YtamfpmlfhfkeoaaProg
import Derived.Below
import Derived.Deep.Draws
import Derived.Deep.AppendLies
import Derived.Maps.AppendAt
import Derived.OwnWalk
import Derived.Laws.BytesArg
import Derived.Laws.MakeOwn
import Derived.Laws.OwnMore
import Derived.Deep.OwnRows
import Derived.Tactics
import Derived.Lib.ConvBytes
import Derived.Laws.Slices
import Derived.WalkKit
import Derived.KernelRfl
import Derived.RowKit3
import Derived.Deep.LoopGhost
import Derived.Deep.QuietTactic
import Derived.BigQuiet
import Derived.WideLaws
import Derived.Deep.DeepCutAuto
import Derived.Deep.CutBlock
import Derived.Deep.RegionHeld3
import Derived.Laws.Rows
import Derived.Lib.AppendStr
import Derived.ArgAppend
import Derived.Laws.IdiomCopy
import Derived.OrdersHeld
import Derived.Laws.BitsLemmas
import Derived.RowKit
import Derived.Lib.SlBytesConst
import Derived.Test.YtamfpmlfhfkeoaaWWords
import Derived.Test.YtamfpmlfhfkeoaaWLast
import Derived.Test.YtamfpmlfhfkeoaaWTab
import Derived.Test.YtamfpmlfhfkeoaaWFour
import Derived.Test.YtamfpmlfhfkeoaaWQPut
import Derived.Test.YtamfpmlfhfkeoaaWApart
import Derived.Test.YtamfpmlfhfkeoaaWArr
import Derived.Test.YtamfpmlfhfkeoaaWZeros
import Derived.Test.YtamfpmlfhfkeoaaWFoot
import Derived.Test.YtamfpmlfhfkeoaaWKept
import Derived.Test.YtamfpmlfhfkeoaaWShare
import Derived.Test.YtamfpmlfhfkeoaaWN
import Derived.Test.YtamfpmlfhfkeoaaWFootNe
import Derived.Test.YtamfpmlfhfkeoaaWAt
import Derived.Test.YtamfpmlfhfkeoaaWEqStruct
import Derived.Test.YtamfpmlfhfkeoaaWRepsOne
import Derived.Test.YtamfpmlfhfkeoaaWInv
import Derived.Test.YtamfpmlfhfkeoaaWInvWords
import Derived.Test.YtamfpmlfhfkeoaaWGuard
import Derived.Test.YtamfpmlfhfkeoaaWNEv
import Derived.Test.YtamfpmlfhfkeoaaWMore
namespace Go.Proofs.Ytamfpmlfhfkeoaa.PTw
open Go.RowKit Go.Proofs.YtamfpmlfhfkeoaaW.PrintWords Go.Proofs.YtamfpmlfhfkeoaaW.PrintLast Go.Proofs.YtamfpmlfhfkeoaaW.PrintMore
attribute [local go_sem] max2_int min2_int max_two min_two max_three min_three max_four min_four   -- for this text's walks alone
set_option linter.unusedVariables false
set_option linter.unusedSimpArgs false



def errW : Option Int → Value
  | none => .nilIface
  | some c => .iface 0 (.int .i64 c)
theorem errW_none : errW none = .nilIface := rfl
theorem errW_some (c : Int) : errW (some c) = .iface 0 (.int .i64 c) := rfl

-- the values' own types

end Go.Proofs.Ytamfpmlfhfkeoaa.PTw
