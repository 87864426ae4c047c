-- Laid by a program of this session (wip/tools/mk.py) over the kit's print: functions, contracts, walks; not written by hand, not trusted: Lean checks it.
import Derived.Test.YtcebnaknodghcaaDoorProg
import Derived.Below
import Derived.Deep.Draws
import Derived.Deep.AppendLies
import Derived.Maps.AppendAt
import Derived.OwnWalk
import Derived.Laws.BytesArg
import Derived.Laws.MakeOwn
import Derived.Laws.OwnMore
import Derived.Deep.OwnRows
import Derived.Tactics
import Derived.Lib.ConvBytes
import Derived.Laws.Slices
import Derived.WalkKit
import Derived.KernelRfl
import Derived.RowKit3
import Derived.Deep.LoopGhost
import Derived.Deep.QuietTactic
import Derived.BigQuiet
import Derived.WideLaws
import Derived.Deep.DeepCutAuto
import Derived.Deep.CutBlock
import Derived.Deep.RegionHeld3
import Derived.Laws.Rows
import Derived.Lib.AppendStr
import Derived.ArgAppend
import Derived.Laws.IdiomCopy
import Derived.OrdersHeld
import Derived.Laws.BitsLemmas
import Derived.RowKit
import Derived.Test.YtcebnaknodghcaaDoorHExt
import Derived.Test.YtcebnaknodghcaaDoorHItoa
import Derived.Test.YtcebnaknodghcaaDoorHUint
import Derived.Test.YtcebnaknodghcaaDoorHNum
import Derived.Test.YtcebnaknodghcaaDoorHNumber
import Derived.Test.YtcebnaknodghcaaDoorWWords
import Derived.Test.YtcebnaknodghcaaDoorWLast
import Derived.Test.YtcebnaknodghcaaDoorWTab
import Derived.Test.YtcebnaknodghcaaDoorWFour
import Derived.Test.YtcebnaknodghcaaDoorWQPut
import Derived.Test.YtcebnaknodghcaaDoorWApart
import Derived.Test.YtcebnaknodghcaaDoorWArr
import Derived.Test.YtcebnaknodghcaaDoorWZeros
import Derived.Test.YtcebnaknodghcaaDoorWFoot
import Derived.Test.YtcebnaknodghcaaDoorWKept
import Derived.Test.YtcebnaknodghcaaDoorWShare
import Derived.Test.YtcebnaknodghcaaDoorWN
import Derived.Test.YtcebnaknodghcaaDoorWFootNe
import Derived.Test.YtcebnaknodghcaaDoorWAt
import Derived.Test.YtcebnaknodghcaaDoorWEqStruct
import Derived.Test.YtcebnaknodghcaaDoorWRepsOne
import Derived.Test.YtcebnaknodghcaaDoorWInv
import Derived.Test.YtcebnaknodghcaaDoorWInvWords
import Derived.Test.YtcebnaknodghcaaDoorWGuard
import Derived.Test.YtcebnaknodghcaaDoorWNEv
import Derived.Test.YtcebnaknodghcaaDoorWMore
namespace Go.Proofs.YtcebnaknodghcaaDoor.PTel
open Go.RowKit Go.Proofs.YtcebnaknodghcaaDoorW.PrintWords Go.Proofs.YtcebnaknodghcaaDoorW.PrintLast Go.Proofs.YtcebnaknodghcaaDoorW.PrintMore
attribute [local go_sem] max2_int min2_int max_two min_two max_three min_three max_four min_four   -- for this text's walks alone
set_option linter.unusedVariables false
set_option linter.unusedSimpArgs false



def errW : Option Int → Value
  | none => .nilIface
  | some c => .iface 0 (.int .i64 c)
theorem errW_none : errW none = .nilIface := rfl
theorem errW_some (c : Int) : errW (some c) = .iface 0 (.int .i64 c) := rfl

theorem info5 : (Tryd.prog.info? 5).map (fun i => (i.zero, i.size, i.bytes)) = some (some (.int .u8 0), 1, 1) := by kernel_rfl
theorem info9 : (Tryd.prog.info? 9).map (fun i => (i.zero, i.size, i.bytes)) = some (some (.string ⟨#[]⟩), 1, 16) := by kernel_rfl
-- the values' own types

end Go.Proofs.YtcebnaknodghcaaDoor.PTel
