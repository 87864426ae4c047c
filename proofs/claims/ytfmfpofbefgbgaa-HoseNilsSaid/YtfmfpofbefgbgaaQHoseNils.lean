import Derived.Test.YtfmfpofbefgbgaaPHoseLx0
namespace Go.Proofs.Ytfmfpofbefgbgaa.Pure
open Go.RowKit Go.Proofs.Ytfmfpofbefgbgaa.PHoseL Go.Proofs.YtfmfpofbefgbgaaW.PrintWords
/-- The one pure statement of towropelaw15_HoseNils. -/
def HoseNilsSt : Prop := ∀ (a0_0 : Int) (a0_1 : Int) (a0_2 : Int) (l0_3 : List Int), (Lit.int .i64 a0_0).wf = true → (Lit.int .i64 a0_1).wf = true → (Lit.int .i64 a0_2).wf = true → l0_3.length ≤ maxLen → (∀ x ∈ l0_3, (Lit.int .u8 x).wf = true) → towropelaw15_HoseNils.f a0_0 a0_1 a0_2 l0_3 = some true
end Go.Proofs.Ytfmfpofbefgbgaa.Pure
