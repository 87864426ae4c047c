import Derived.Test.YtilkbmjkjlbfmaaPRtoLx0
namespace Go.Proofs.Ytilkbmjkjlbfmaa.Pure
open Go.RowKit Go.Proofs.Ytilkbmjkjlbfmaa.PRtoL Go.Proofs.YtilkbmjkjlbfmaaW.PrintWords
/-- The one pure statement of towropelaw20_RtoSteady. -/
def RtoSteadySt : Prop := ∀ (a0 : Int), (Lit.int .u16 a0).wf = true → towropelaw20_RtoSteady.f a0 = some true
end Go.Proofs.Ytilkbmjkjlbfmaa.Pure
