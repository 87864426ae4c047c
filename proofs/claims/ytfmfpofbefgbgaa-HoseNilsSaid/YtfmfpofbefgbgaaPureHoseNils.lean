/- HoseNils: what a hose that is nil answers, for every call: true. No conditions. -/
import Derived.Test.YtfmfpofbefgbgaaQHoseNils
namespace Go.Proofs.Ytfmfpofbefgbgaa.Pure
set_option linter.unusedVariables false
set_option linter.unusedSimpArgs false
open Go.RowKit Go.Proofs.Ytfmfpofbefgbgaa.PHoseL
theorem HoseNils : HoseNilsSt := by
  intro a0_0 a0_1 a0_2 l0_3 _ _ _ _ _
  rfl
end Go.Proofs.Ytfmfpofbefgbgaa.Pure
