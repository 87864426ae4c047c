import Derived.Test.YtfmfpofbefgbgaaPFragLx2
namespace Go.Proofs.Ytfmfpofbefgbgaa.Pure
open Go.RowKit Go.Proofs.Ytfmfpofbefgbgaa.PFragL Go.Proofs.YtfmfpofbefgbgaaW.PrintWords
/-- The one pure statement of towropelaw11_FragSplits. -/
def FragSplitsSt : Prop := ∀ (a0_0 : Int) (a0_1 : Int) (a0_2 : Bool) (a0_3 : Bool) (a0_4 : Int) (a0_5 : Int) (a0_6 : Int) (a0_7 : Int) (a0_8 : Int) (l0_9 : List Int) (l0_10 : List Int) (a1 : Int), (Lit.int .u8 a0_0).wf = true → (Lit.int .u16 a0_1).wf = true → (Lit.int .i64 a0_4).wf = true → (Lit.int .u8 a0_5).wf = true → (Lit.int .u8 a0_6).wf = true → (Lit.int .u32 a0_7).wf = true → (Lit.int .u32 a0_8).wf = true → l0_9.length ≤ maxLen → (∀ x ∈ l0_9, (Lit.int .u8 x).wf = true) → l0_10.length ≤ maxLen → (∀ x ∈ l0_10, (Lit.int .u8 x).wf = true) → (Lit.int .i64 a1).wf = true → towropelaw11_FragSplits.f a0_0 a0_1 a0_2 a0_3 a0_4 a0_5 a0_6 a0_7 a0_8 l0_9 l0_10 a1 = some true
end Go.Proofs.Ytfmfpofbefgbgaa.Pure
