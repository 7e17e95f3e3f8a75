/- Written by this session's own program (wip/tools/pr.sh) for this claim: functions of the Go program as plain Lean functions, and that the calls come to what these say; in a Law text: the given statement. Conditions: none but the hypotheses that each theorem states. -/
import Derived.Test.YtbohanoekboifaaProg
import Derived.Below
import Derived.Deep.Draws
import Derived.Deep.AppendLies
import Derived.Maps.AppendAt
import Derived.OwnWalk
import Derived.Laws.BytesArg
import Derived.Laws.MakeOwn
import Derived.Laws.OwnMore
import Derived.Deep.OwnRows
import Derived.Tactics
import Derived.Lib.ConvBytes
import Derived.Laws.Slices
import Derived.WalkKit
import Derived.KernelRfl
import Derived.RowKit3
import Derived.Deep.LoopGhost
import Derived.Deep.QuietTactic
import Derived.BigQuiet
import Derived.WideLaws
import Derived.Deep.DeepCutAuto
import Derived.Deep.CutBlock
import Derived.Deep.RegionHeld3
import Derived.Laws.Rows
import Derived.Lib.AppendStr
import Derived.ArgAppend
import Derived.Laws.IdiomCopy
import Derived.OrdersHeld
import Derived.Laws.BitsLemmas
import Derived.RowKit
import Derived.Test.YtbohanoekboifaaWWords
import Derived.Test.YtbohanoekboifaaWLast
import Derived.Test.YtbohanoekboifaaWTab
import Derived.Test.YtbohanoekboifaaWFour
import Derived.Test.YtbohanoekboifaaWQPut
import Derived.Test.YtbohanoekboifaaWApart
import Derived.Test.YtbohanoekboifaaWArr
import Derived.Test.YtbohanoekboifaaWZeros
import Derived.Test.YtbohanoekboifaaWFoot
import Derived.Test.YtbohanoekboifaaWKept
import Derived.Test.YtbohanoekboifaaWShare
import Derived.Test.YtbohanoekboifaaWN
import Derived.Test.YtbohanoekboifaaWFootNe
import Derived.Test.YtbohanoekboifaaWAt
import Derived.Test.YtbohanoekboifaaWEqStruct
import Derived.Test.YtbohanoekboifaaWRepsOne
import Derived.Test.YtbohanoekboifaaWInv
import Derived.Test.YtbohanoekboifaaWInvWords
import Derived.Test.YtbohanoekboifaaWGuard
import Derived.Test.YtbohanoekboifaaWNEv
import Derived.Test.YtbohanoekboifaaWMore
namespace Go.Proofs.Ytbohanoekboifaa.PW
open Go.RowKit Go.Proofs.YtbohanoekboifaaW.PrintWords Go.Proofs.YtbohanoekboifaaW.PrintLast Go.Proofs.YtbohanoekboifaaW.PrintMore
attribute [local go_sem] max2_int min2_int max_two min_two max_three min_three max_four min_four   -- for this text's walks alone
set_option linter.unusedVariables false
set_option linter.unusedSimpArgs false



def errW : Option Int → Value
  | none => .nilIface
  | some c => .iface 0 (.int .i64 c)
theorem errW_none : errW none = .nilIface := rfl
theorem errW_some (c : Int) : errW (some c) = .iface 0 (.int .i64 c) := rfl

theorem info3 : (Try.prog.info? 3).map (fun i => (i.zero, i.size, i.bytes)) = some (some (.int .i64 0), 1, 8) := by kernel_rfl
-- the values' own types

end Go.Proofs.Ytbohanoekboifaa.PW
