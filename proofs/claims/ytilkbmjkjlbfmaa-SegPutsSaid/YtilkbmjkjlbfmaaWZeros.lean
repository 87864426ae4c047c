/- Of the print's words for this seat: what this claim needs (kept by a program of this session, wip/tools/wshake.py); no conditions beyond each lemma's own. -/
import Derived.Test.YtilkbmjkjlbfmaaWApart
import Derived.Test.YtilkbmjkjlbfmaaWArr
namespace Go.Proofs.YtilkbmjkjlbfmaaW.PrintWords
open Go.RowKit
section
variable {P : Program}
end
namespace Kd
section
variable {P : Program} {ops : Array Oper} {rest : List Oper} {o : Oper} {a : Act} {Q : Exit → Act → World → Prop} {Kc : Act → World → Prop} {α : Type}
end
section
variable {α : Type} {d : Kd α} {e : Nat} {w : World} {base : Nat} {ok : Nat → Prop} {v : Value} {xs : List α}
end
section
variable {P : Program} {ops : Array Oper} {rest : List Oper} {o : Oper} {a : Act} {Q : Exit → Act → World → Prop} {Kc : Act → World → Prop} {α : Type}
end
end Kd
end Go.Proofs.YtilkbmjkjlbfmaaW.PrintWords
