/- Plain law of layer 26: the page's example holds. Conditions: each lemma's own. -/
import Derived.Test.YtilkbmjkjlbfmaaPEntx2
import Derived.Test.YtilkbmjkjlbfmaaPEntx4
import Derived.Test.YtilkbmjkjlbfmaaAr
namespace Go.Proofs.Ytilkbmjkjlbfmaa.PEnt
set_option linter.unusedVariables false
set_option linter.unusedSimpArgs false
open Go.RowKit Go.Proofs.Ytilkbmjkjlbfmaa.PEnt Go.Proofs.YtilkbmjkjlbfmaaW.PrintWords Go.Proofs.YtilkbmjkjlbfmaaW.PrintLast Go.Proofs.YtilkbmjkjlbfmaaW.PrintMore Go.Proofs.Ytilkbmjkjlbfmaa.Ar

theorem entry_live : ∀ k, towropelaw26_live.f (k + 10) = some true := by
  intro k
  induction k with
  | zero => decide +kernel
  | succ k ih => exact towropelaw26_live.mono (k + 10) true ih
theorem entry_code (x : Int) : towropelaw26_code.f x = some x := rfl

end Go.Proofs.Ytilkbmjkjlbfmaa.PEnt
