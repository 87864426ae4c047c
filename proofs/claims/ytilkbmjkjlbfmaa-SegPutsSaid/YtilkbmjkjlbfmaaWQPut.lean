/- Of the print's words for this seat: what this claim needs (kept by a program of this session, wip/tools/wshake.py); no conditions beyond each lemma's own. -/
import Derived.Test.YtilkbmjkjlbfmaaWWords
import Derived.Test.YtilkbmjkjlbfmaaWLast
namespace Go.Proofs.YtilkbmjkjlbfmaaW.PrintWords
open Go.RowKit
namespace Kd
section
variable {α : Type} {d : Kd α} {e base g o n cap : Nat} {ok okp : Nat → Prop} {w W : World} {v : Value} {xs : List α}
end
section
variable {α : Type} {enc : α → Value} {h1 : ∀ x, (enc x).oneCell' = true} {e base g o n cap : Nat} {ok : Nat → Prop} {W : World} {xs : List α}
end
end Kd
end Go.Proofs.YtilkbmjkjlbfmaaW.PrintWords
