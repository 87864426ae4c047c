-- Laid by a program of this session (wip/tools/mk.py) over the kit's print: functions, contracts, walks; not written by hand, not trusted: Lean checks it.
import Derived.Test.YtilkbmjkjlbfmaaProg
import Derived.Below
import Derived.Deep.Draws
import Derived.Deep.AppendLies
import Derived.Maps.AppendAt
import Derived.OwnWalk
import Derived.Laws.BytesArg
import Derived.Laws.MakeOwn
import Derived.Laws.OwnMore
import Derived.Deep.OwnRows
import Derived.Tactics
import Derived.Lib.ConvBytes
import Derived.Laws.Slices
import Derived.WalkKit
import Derived.KernelRfl
import Derived.RowKit3
import Derived.Deep.LoopGhost
import Derived.Deep.QuietTactic
import Derived.BigQuiet
import Derived.WideLaws
import Derived.Deep.DeepCutAuto
import Derived.Deep.CutBlock
import Derived.Deep.RegionHeld3
import Derived.Laws.Rows
import Derived.Lib.AppendStr
import Derived.ArgAppend
import Derived.Laws.IdiomCopy
import Derived.OrdersHeld
import Derived.Laws.BitsLemmas
import Derived.RowKit
import Derived.Test.YtilkbmjkjlbfmaaHExt
import Derived.Test.YtilkbmjkjlbfmaaHClone
import Derived.Test.YtilkbmjkjlbfmaaHSum
import Derived.Test.YtilkbmjkjlbfmaaHOf
import Derived.Test.YtilkbmjkjlbfmaaHRead
import Derived.Test.YtilkbmjkjlbfmaaWWords
import Derived.Test.YtilkbmjkjlbfmaaWLast
import Derived.Test.YtilkbmjkjlbfmaaWTab
import Derived.Test.YtilkbmjkjlbfmaaWQPut
import Derived.Test.YtilkbmjkjlbfmaaWApart
import Derived.Test.YtilkbmjkjlbfmaaWArr
import Derived.Test.YtilkbmjkjlbfmaaWZeros
import Derived.Test.YtilkbmjkjlbfmaaWFoot
import Derived.Test.YtilkbmjkjlbfmaaWKept
import Derived.Test.YtilkbmjkjlbfmaaWShare
import Derived.Test.YtilkbmjkjlbfmaaWN
import Derived.Test.YtilkbmjkjlbfmaaWRepsOne
import Derived.Test.YtilkbmjkjlbfmaaWGuard
import Derived.Test.YtilkbmjkjlbfmaaWNEv
import Derived.Test.YtilkbmjkjlbfmaaWMore
namespace Go.Proofs.Ytilkbmjkjlbfmaa.PSegP
open Go.RowKit Go.Proofs.YtilkbmjkjlbfmaaW.PrintWords Go.Proofs.YtilkbmjkjlbfmaaW.PrintLast Go.Proofs.YtilkbmjkjlbfmaaW.PrintMore
attribute [local go_sem] max2_int min2_int max_two min_two max_three min_three max_four min_four   -- for this text's walks alone
set_option linter.unusedVariables false
set_option linter.unusedSimpArgs false



def errW : Option Int → Value
  | none => .nilIface
  | some c => .iface 0 (.int .i64 c)
theorem errW_none : errW none = .nilIface := rfl
theorem errW_some (c : Int) : errW (some c) = .iface 0 (.int .i64 c) := rfl

theorem info5 : (Try.prog.info? 5).map (fun i => (i.zero, i.size, i.bytes)) = some (some (.int .u8 0), 1, 1) := by kernel_rfl
-- the values' own types

end Go.Proofs.Ytilkbmjkjlbfmaa.PSegP
