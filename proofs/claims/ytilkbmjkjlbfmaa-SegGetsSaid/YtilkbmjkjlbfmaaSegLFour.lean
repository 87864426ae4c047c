/- Plain law: four bytes by the reference. Conditions: each lemma's own. -/
import Derived.Test.YtilkbmjkjlbfmaaPSegx10
import Derived.Test.YtilkbmjkjlbfmaaSegLPut
import Derived.Test.YtilkbmjkjlbfmaaSegLTwo
namespace Go.Proofs.Ytilkbmjkjlbfmaa.PSeg
set_option linter.unusedVariables false
set_option linter.unusedSimpArgs false
open Go.RowKit Go.Proofs.YtilkbmjkjlbfmaaW.PrintWords Go.Proofs.YtilkbmjkjlbfmaaW.PrintLast Go.Proofs.YtilkbmjkjlbfmaaW.PrintMore Go.Proofs.Ytilkbmjkjlbfmaa.Ar Go.Proofs.Ytilkbmjkjlbfmaa.HSum

theorem four_f (n : Int) (n0 : 0 ≤ n) (n1 : n ≤ 4294967295) : towroperef01_Four.f n = some (fourS n) := by
  unfold towroperef01_Four.f
  rw [td _ _ n0, tm _ _ n0, two_f, two_f, w64 (n := n % 65536) (by omega) (by omega)]
  simp only [Option.bind_some]
  unfold twoS fourS
  simp only [List.length_cons, List.length_nil]
  rw [if_pos (by omega)]
  simp only [List.cons_append, List.nil_append]
  rw [show n / 65536 % 4294967296 % 65536 / 256 = n / 16777216 % 256 by omega, show n / 65536 % 4294967296 % 256 = n / 65536 % 256 by omega, show n % 65536 % 65536 / 256 = n / 256 % 256 by omega, show n % 65536 % 256 = n % 256 by omega]
end Go.Proofs.Ytilkbmjkjlbfmaa.PSeg
