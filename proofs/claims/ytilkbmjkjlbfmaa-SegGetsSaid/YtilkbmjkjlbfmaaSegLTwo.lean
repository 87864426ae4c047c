/- Plain law: two bytes by the reference. Conditions: each lemma's own. -/
import Derived.Test.YtilkbmjkjlbfmaaPSegx6
import Derived.Test.YtilkbmjkjlbfmaaSegLTot
namespace Go.Proofs.Ytilkbmjkjlbfmaa.PSeg
set_option linter.unusedVariables false
set_option linter.unusedSimpArgs false
open Go.RowKit Go.Proofs.YtilkbmjkjlbfmaaW.PrintWords Go.Proofs.YtilkbmjkjlbfmaaW.PrintLast Go.Proofs.YtilkbmjkjlbfmaaW.PrintMore Go.Proofs.Ytilkbmjkjlbfmaa.Ar Go.Proofs.Ytilkbmjkjlbfmaa.HSum

theorem two_f (n : Int) : towroperef01_Two.f n = some (twoS n) := by
  unfold towroperef01_Two.f twoS
  rw [u64w, tm _ _ (by omega)]
  have e : n % 18446744073709551616 % 65536 = n % 65536 := by omega
  rw [e, w64 (n := n % 65536) (by omega) (by omega), tm _ _ (by omega), td _ _ (by omega), w64 (by omega) (by omega), show n % 65536 / 256 % 256 = n % 65536 / 256 by omega, show n % 65536 % 256 % 256 = n % 256 by omega]
end Go.Proofs.Ytilkbmjkjlbfmaa.PSeg
