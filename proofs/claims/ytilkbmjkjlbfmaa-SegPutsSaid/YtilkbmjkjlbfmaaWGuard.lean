/- Of the print's words for this seat: what this claim needs (kept by a program of this session, wip/tools/wshake.py); no conditions beyond each lemma's own. -/
import Derived.Test.YtilkbmjkjlbfmaaWWords
namespace Go.Proofs.YtilkbmjkjlbfmaaW.PrintWords
open Go.RowKit
section
variable {P : Program} {ops : Array Oper} {rest : List Oper} {o : Oper} {a : Act} {Q : Exit → Act → World → Prop} {W : World}
end
end Go.Proofs.YtilkbmjkjlbfmaaW.PrintWords
