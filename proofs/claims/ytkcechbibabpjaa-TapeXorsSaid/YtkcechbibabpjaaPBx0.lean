/- Written by this session's own program (wip/tools/pr.sh) for this claim: functions of the Go program as plain Lean functions, and that the calls come to what these say; in a Law text: the given statement. Conditions: none but the hypotheses that each theorem states. -/
import Derived.Test.YtkcechbibabpjaaProg
import Derived.Below
import Derived.Deep.Draws
import Derived.Deep.AppendLies
import Derived.Maps.AppendAt
import Derived.OwnWalk
import Derived.Laws.BytesArg
import Derived.Laws.MakeOwn
import Derived.Laws.OwnMore
import Derived.Deep.OwnRows
import Derived.Tactics
import Derived.Lib.ConvBytes
import Derived.Laws.Slices
import Derived.WalkKit
import Derived.KernelRfl
import Derived.RowKit3
import Derived.Deep.LoopGhost
import Derived.Deep.QuietTactic
import Derived.BigQuiet
import Derived.WideLaws
import Derived.Deep.DeepCutAuto
import Derived.Deep.CutBlock
import Derived.Deep.RegionHeld3
import Derived.Laws.Rows
import Derived.Lib.AppendStr
import Derived.ArgAppend
import Derived.Laws.IdiomCopy
import Derived.OrdersHeld
import Derived.Laws.BitsLemmas
import Derived.RowKit
import Derived.Lib.LazyBuf
import Derived.Laws.CopyOwn
import Derived.Deep.RegionLaw
import Derived.Test.YtkcechbibabpjaaWWords
import Derived.Test.YtkcechbibabpjaaWLast
import Derived.Test.YtkcechbibabpjaaWTab
import Derived.Test.YtkcechbibabpjaaWFour
import Derived.Test.YtkcechbibabpjaaWQPut
import Derived.Test.YtkcechbibabpjaaWApart
import Derived.Test.YtkcechbibabpjaaWArr
import Derived.Test.YtkcechbibabpjaaWZeros
import Derived.Test.YtkcechbibabpjaaWFoot
import Derived.Test.YtkcechbibabpjaaWKept
import Derived.Test.YtkcechbibabpjaaWShare
import Derived.Test.YtkcechbibabpjaaWN
import Derived.Test.YtkcechbibabpjaaWFootNe
import Derived.Test.YtkcechbibabpjaaWAt
import Derived.Test.YtkcechbibabpjaaWEqStruct
import Derived.Test.YtkcechbibabpjaaWRepsOne
import Derived.Test.YtkcechbibabpjaaWInv
import Derived.Test.YtkcechbibabpjaaWInvWords
import Derived.Test.YtkcechbibabpjaaWGuard
import Derived.Test.YtkcechbibabpjaaWNEv
import Derived.Test.YtkcechbibabpjaaWMore
namespace Go.Proofs.Ytkcechbibabpjaa.PB
open Go.RowKit Go.Proofs.YtkcechbibabpjaaW.PrintWords Go.Proofs.YtkcechbibabpjaaW.PrintLast Go.Proofs.YtkcechbibabpjaaW.PrintMore
attribute [local go_sem] max2_int min2_int max_two min_two max_three min_three max_four min_four   -- for this text's walks alone
set_option linter.unusedVariables false
set_option linter.unusedSimpArgs false



def errW : Option Int → Value
  | none => .nilIface
  | some c => .iface 0 (.int .i64 c)
theorem errW_none : errW none = .nilIface := rfl
theorem errW_some (c : Int) : errW (some c) = .iface 0 (.int .i64 c) := rfl

theorem info4 : (Try.prog.info? 4).map (fun i => (i.zero, i.size, i.bytes)) = some (some (.bool false), 1, 1) := by kernel_rfl
theorem info22 : (Try.prog.info? 22).map (fun i => (i.zero, i.size, i.bytes)) = some (some (.int .u32 0), 1, 4) := by kernel_rfl
-- the values' own types

end Go.Proofs.Ytkcechbibabpjaa.PB
