-- Laid by a program of this session (wip/tools/mk.py) over the kit's print: functions, contracts, walks; not written by hand, not trusted: Lean checks it.
import Derived.Test.YtfmfpofbefgbgaaProg
import Derived.Below
import Derived.Deep.Draws
import Derived.Deep.AppendLies
import Derived.Maps.AppendAt
import Derived.OwnWalk
import Derived.Laws.BytesArg
import Derived.Laws.MakeOwn
import Derived.Laws.OwnMore
import Derived.Deep.OwnRows
import Derived.Tactics
import Derived.Lib.ConvBytes
import Derived.Laws.Slices
import Derived.WalkKit
import Derived.KernelRfl
import Derived.RowKit3
import Derived.Deep.LoopGhost
import Derived.Deep.QuietTactic
import Derived.BigQuiet
import Derived.WideLaws
import Derived.Deep.DeepCutAuto
import Derived.Deep.CutBlock
import Derived.Deep.RegionHeld3
import Derived.Laws.Rows
import Derived.Lib.AppendStr
import Derived.ArgAppend
import Derived.Laws.IdiomCopy
import Derived.OrdersHeld
import Derived.Laws.BitsLemmas
import Derived.RowKit
import Derived.Test.YtfmfpofbefgbgaaHExt
import Derived.Test.YtfmfpofbefgbgaaHClone
import Derived.Test.YtfmfpofbefgbgaaHCar2
import Derived.Test.YtfmfpofbefgbgaaPFragLx0
import Derived.Test.YtfmfpofbefgbgaaWWords
import Derived.Test.YtfmfpofbefgbgaaWLast
import Derived.Test.YtfmfpofbefgbgaaWTab
import Derived.Test.YtfmfpofbefgbgaaWFour
import Derived.Test.YtfmfpofbefgbgaaWQPut
import Derived.Test.YtfmfpofbefgbgaaWApart
import Derived.Test.YtfmfpofbefgbgaaWArr
import Derived.Test.YtfmfpofbefgbgaaWZeros
import Derived.Test.YtfmfpofbefgbgaaWFoot
import Derived.Test.YtfmfpofbefgbgaaWKept
import Derived.Test.YtfmfpofbefgbgaaWShare
import Derived.Test.YtfmfpofbefgbgaaWN
import Derived.Test.YtfmfpofbefgbgaaWFootNe
import Derived.Test.YtfmfpofbefgbgaaWAt
import Derived.Test.YtfmfpofbefgbgaaWEqStruct
import Derived.Test.YtfmfpofbefgbgaaWRepsOne
import Derived.Test.YtfmfpofbefgbgaaWInv
import Derived.Test.YtfmfpofbefgbgaaWInvWords
import Derived.Test.YtfmfpofbefgbgaaWGuard
import Derived.Test.YtfmfpofbefgbgaaWNEv
import Derived.Test.YtfmfpofbefgbgaaWMore
namespace Go.Proofs.Ytfmfpofbefgbgaa.PFrc
open Go.RowKit Go.Proofs.YtfmfpofbefgbgaaW.PrintWords Go.Proofs.YtfmfpofbefgbgaaW.PrintLast Go.Proofs.YtfmfpofbefgbgaaW.PrintMore
attribute [local go_sem] max2_int min2_int max_two min_two max_three min_three max_four min_four   -- for this text's walks alone
set_option linter.unusedVariables false
set_option linter.unusedSimpArgs false



def errW : Option Int → Value
  | none => .nilIface
  | some c => .iface 0 (.int .i64 c)
theorem errW_none : errW none = .nilIface := rfl
theorem errW_some (c : Int) : errW (some c) = .iface 0 (.int .i64 c) := rfl

theorem info5 : (Try.prog.info? 5).map (fun i => (i.zero, i.size, i.bytes)) = some (some (.int .u8 0), 1, 1) := by kernel_rfl
-- the values' own types

end Go.Proofs.Ytfmfpofbefgbgaa.PFrc
