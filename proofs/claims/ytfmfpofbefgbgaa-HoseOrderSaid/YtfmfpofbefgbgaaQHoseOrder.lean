import Derived.Test.YtfmfpofbefgbgaaPHoseLx1
namespace Go.Proofs.Ytfmfpofbefgbgaa.Pure
open Go.RowKit Go.Proofs.Ytfmfpofbefgbgaa.PHoseL Go.Proofs.YtfmfpofbefgbgaaW.PrintWords
/-- The one pure statement of towropelaw15_HoseOrder. -/
def HoseOrderSt : Prop := ∀ (a0 : Int) (l1 : List Int) (l2 : List Int), (Lit.int .u16 a0).wf = true → l1.length ≤ maxLen → (∀ x ∈ l1, (Lit.int .u8 x).wf = true) → l2.length ≤ maxLen → (∀ x ∈ l2, (Lit.int .u8 x).wf = true) → towropelaw15_HoseOrder.f a0 l1 l2 = some true
end Go.Proofs.Ytfmfpofbefgbgaa.Pure
