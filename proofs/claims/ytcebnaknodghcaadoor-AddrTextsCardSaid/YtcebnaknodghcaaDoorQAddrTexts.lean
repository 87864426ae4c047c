import Derived.Test.YtcebnaknodghcaaDoorPAddrx3
namespace Go.Proofs.YtcebnaknodghcaaDoor.Pure
open Go.RowKit Go.Proofs.YtcebnaknodghcaaDoor.PAddr Go.Proofs.YtcebnaknodghcaaDoorW.PrintWords
/-- The one pure statement of towropelaw05_AddrTexts. -/
def AddrTextsSt : Prop := ∀ (a0 : Int), (Lit.int .u32 a0).wf = true → ∃ k, towropelaw05_AddrTexts.f k a0 = some true
end Go.Proofs.YtcebnaknodghcaaDoor.Pure
