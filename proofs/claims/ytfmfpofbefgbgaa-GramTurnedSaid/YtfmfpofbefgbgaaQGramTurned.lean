import Derived.Test.YtfmfpofbefgbgaaPGramTx4
namespace Go.Proofs.Ytfmfpofbefgbgaa.Pure
open Go.RowKit Go.Proofs.Ytfmfpofbefgbgaa.PGramT Go.Proofs.YtfmfpofbefgbgaaW.PrintWords
/-- The one pure statement of towropelaw08_GramTurned. -/
def GramTurnedSt : Prop := ∀ (a0 : Int) (a1 : Int) (a2_0 : Int) (a2_1 : Int) (l2_2 : List Int) (a3 : Int) (a4 : Int), (Lit.int .u32 a0).wf = true → (Lit.int .u32 a1).wf = true → (Lit.int .u16 a2_0).wf = true → (Lit.int .u16 a2_1).wf = true → l2_2.length ≤ maxLen → (∀ x ∈ l2_2, (Lit.int .u8 x).wf = true) → (Lit.int .u16 a3).wf = true → (Lit.int .u16 a4).wf = true → ∃ k, towropelaw08_GramTurned.f k a0 a1 a2_0 a2_1 l2_2 a3 a4 = some true
end Go.Proofs.Ytfmfpofbefgbgaa.Pure
