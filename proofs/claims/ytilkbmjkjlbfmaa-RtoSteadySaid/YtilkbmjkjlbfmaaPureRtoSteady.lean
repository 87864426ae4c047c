/- RtoSteady: every whole number of 16 bits is one that the law speaks of. No conditions. -/
import Derived.Test.YtilkbmjkjlbfmaaQRtoSteady
namespace Go.Proofs.Ytilkbmjkjlbfmaa.Pure
set_option linter.unusedVariables false
set_option linter.unusedSimpArgs false
open Go.RowKit Go.Proofs.Ytilkbmjkjlbfmaa.PRtoL
theorem RtoSteady : RtoSteadySt := by
  intro a0 h
  have h0 : 0 ≤ a0 ∧ a0 ≤ 65535 := by simpa [Lit.wf, IntKind.min, IntKind.max, IntKind.bits, IntKind.signed] using h
  unfold towropelaw20_RtoSteady.f
  rw [if_pos h0]
end Go.Proofs.Ytilkbmjkjlbfmaa.Pure
