/- Small additions to the print's words: a string made of a row that may be shared; no conditions beyond each lemma's own. -/
import Derived.Test.YtcnodelfblpdiaaProg
import Derived.Below
import Derived.Deep.Draws
import Derived.Deep.AppendLies
import Derived.Maps.AppendAt
import Derived.OwnWalk
import Derived.Laws.BytesArg
import Derived.Laws.MakeOwn
import Derived.Laws.OwnMore
import Derived.Deep.OwnRows
import Derived.Tactics
import Derived.Lib.ConvBytes
import Derived.Laws.Slices
import Derived.WalkKit
import Derived.KernelRfl
import Derived.RowKit3
import Derived.Deep.LoopGhost
import Derived.Deep.QuietTactic
import Derived.BigQuiet
import Derived.WideLaws
import Derived.Deep.DeepCutAuto
import Derived.Deep.CutBlock
import Derived.Deep.RegionHeld3
import Derived.Laws.Rows
import Derived.Lib.AppendStr
import Derived.ArgAppend
import Derived.Laws.IdiomCopy
import Derived.OrdersHeld
import Derived.Laws.BitsLemmas
import Derived.RowKit
import Derived.Test.YtcnodelfblpdiaaWWords
import Derived.Test.YtcnodelfblpdiaaWLast
import Derived.Test.YtcnodelfblpdiaaWTab
import Derived.Test.YtcnodelfblpdiaaWFour
import Derived.Test.YtcnodelfblpdiaaWQPut
import Derived.Test.YtcnodelfblpdiaaWApart
import Derived.Test.YtcnodelfblpdiaaWArr
import Derived.Test.YtcnodelfblpdiaaWZeros
import Derived.Test.YtcnodelfblpdiaaWFoot
import Derived.Test.YtcnodelfblpdiaaWKept
import Derived.Test.YtcnodelfblpdiaaWShare
import Derived.Test.YtcnodelfblpdiaaWN
import Derived.Test.YtcnodelfblpdiaaWFootNe
import Derived.Test.YtcnodelfblpdiaaWAt
import Derived.Test.YtcnodelfblpdiaaWEqStruct
import Derived.Test.YtcnodelfblpdiaaWRepsOne
import Derived.Test.YtcnodelfblpdiaaWInv
import Derived.Test.YtcnodelfblpdiaaWInvWords
import Derived.Test.YtcnodelfblpdiaaWGuard
import Derived.Test.YtcnodelfblpdiaaWNEv
import Derived.Test.YtcnodelfblpdiaaWMore
namespace Go.Proofs.Ytcnodelfblpdiaa.HExt
open Go.RowKit Go.Proofs.YtcnodelfblpdiaaW.PrintWords Go.Proofs.YtcnodelfblpdiaaW.PrintLast Go.Proofs.YtcnodelfblpdiaaW.PrintMore
theorem V_string {P : Program} {w : World} {src dst e : TypeId} {e0 base : Nat} {ok : Nat → Prop} {v : Value} {xs : List Int} (hs : P.underlying src = some (.slice e)) (he : P.underlying e = some (.int .u8)) (hd : P.underlying dst = some .string)
    (h : Kd.V (Kd.int .u8) e0 w base ok v xs) : (convert src dst v).run P w = .ok (.string (strOfNums xs)) w := by
  obtain ⟨A, c, rfl, _, hF⟩ := h
  exact Kd.C_string hs he hd (Kd.F_now hF)
end Go.Proofs.Ytcnodelfblpdiaa.HExt
