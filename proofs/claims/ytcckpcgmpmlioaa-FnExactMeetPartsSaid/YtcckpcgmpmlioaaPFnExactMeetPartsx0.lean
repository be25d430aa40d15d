/- Functions of the program and of the reference as plain Lean functions, and what their calls come to; partly printed by a program, partly by hand; no condition beyond what each theorem says. -/
import Derived.Test.YtcckpcgmpmlioaaProg
import Derived.Below
import Derived.Deep.Draws
import Derived.Deep.AppendLies
import Derived.Maps.AppendAt
import Derived.OwnWalk
import Derived.Laws.BytesArg
import Derived.Laws.MakeOwn
import Derived.Laws.OwnMore
import Derived.Deep.OwnRows
import Derived.Tactics
import Derived.Lib.ConvBytes
import Derived.Laws.Slices
import Derived.WalkKit
import Derived.KernelRfl
import Derived.RowKit3
import Derived.Deep.LoopGhost
import Derived.Deep.QuietTactic
import Derived.BigQuiet
import Derived.WideLaws
import Derived.Deep.DeepCutAuto
import Derived.Deep.CutBlock
import Derived.Deep.RegionHeld3
import Derived.Laws.Rows
import Derived.Lib.AppendStr
import Derived.ArgAppend
import Derived.Laws.IdiomCopy
import Derived.OrdersHeld
import Derived.Laws.BitsLemmas
import Derived.RowKit
import Derived.Shelf.Abstract
import Derived.Lib.SliceRun
import Derived.WalkSpells
import Derived.Test.YtcckpcgmpmlioaaGen
import Derived.Test.YtcckpcgmpmlioaaWWords
import Derived.Test.YtcckpcgmpmlioaaWLast
import Derived.Test.YtcckpcgmpmlioaaWTab
import Derived.Test.YtcckpcgmpmlioaaWFour
import Derived.Test.YtcckpcgmpmlioaaWQPut
import Derived.Test.YtcckpcgmpmlioaaWApart
import Derived.Test.YtcckpcgmpmlioaaWArr
import Derived.Test.YtcckpcgmpmlioaaWZeros
import Derived.Test.YtcckpcgmpmlioaaWFoot
import Derived.Test.YtcckpcgmpmlioaaWKept
import Derived.Test.YtcckpcgmpmlioaaWShare
import Derived.Test.YtcckpcgmpmlioaaWN
import Derived.Test.YtcckpcgmpmlioaaWFootNe
import Derived.Test.YtcckpcgmpmlioaaWAt
import Derived.Test.YtcckpcgmpmlioaaWEqStruct
import Derived.Test.YtcckpcgmpmlioaaWRepsOne
import Derived.Test.YtcckpcgmpmlioaaWInv
import Derived.Test.YtcckpcgmpmlioaaWInvWords
import Derived.Test.YtcckpcgmpmlioaaWGuard
import Derived.Test.YtcckpcgmpmlioaaWNEv
import Derived.Test.YtcckpcgmpmlioaaWMore
namespace Go.Proofs.Ytcckpcgmpmlioaa.PFnExactMeetParts
open Go.RowKit Go.Proofs.YtcckpcgmpmlioaaW.PrintWords Go.Proofs.YtcckpcgmpmlioaaW.PrintLast Go.Proofs.YtcckpcgmpmlioaaW.PrintMore
attribute [local go_sem] max2_int min2_int max_two min_two max_three min_three max_four min_four   -- for this text's walks alone
set_option linter.unusedVariables false
set_option linter.unusedSimpArgs false



def errW : Option Int → Value
  | none => .nilIface
  | some c => .iface 0 (.int .i64 c)
theorem errW_none : errW none = .nilIface := rfl
theorem errW_some (c : Int) : errW (some c) = .iface 0 (.int .i64 c) := rfl

theorem info3 : (Try.prog.info? 3).map (fun i => (i.zero, i.size, i.bytes)) = some (some (.int .i64 0), 1, 8) := by kernel_rfl
-- the values' own types

end Go.Proofs.Ytcckpcgmpmlioaa.PFnExactMeetParts
