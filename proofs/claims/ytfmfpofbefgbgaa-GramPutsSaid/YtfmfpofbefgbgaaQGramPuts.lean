import Derived.Test.YtfmfpofbefgbgaaPGramPx7
namespace Go.Proofs.Ytfmfpofbefgbgaa.Pure
open Go.RowKit Go.Proofs.Ytfmfpofbefgbgaa.PGramP Go.Proofs.YtfmfpofbefgbgaaW.PrintWords
/-- The one pure statement of towropelaw08_GramPuts. -/
def GramPutsSt : Prop := ∀ (a0 : Int) (a1 : Int) (a2_0 : Int) (a2_1 : Int) (l2_2 : List Int) (l3 : List Int), (Lit.int .u32 a0).wf = true → (Lit.int .u32 a1).wf = true → (Lit.int .u16 a2_0).wf = true → (Lit.int .u16 a2_1).wf = true → l2_2.length ≤ maxLen → (∀ x ∈ l2_2, (Lit.int .u8 x).wf = true) → l3.length ≤ maxLen → (∀ x ∈ l3, (Lit.int .u8 x).wf = true) → ∃ k, towropelaw08_GramPuts.f k a0 a1 a2_0 a2_1 l2_2 l3 = some true
end Go.Proofs.Ytfmfpofbefgbgaa.Pure
