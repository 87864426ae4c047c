import Derived.Test.YtcebnaknodghcaaDoorPAdNx5
namespace Go.Proofs.YtcebnaknodghcaaDoor.Pure
open Go.RowKit Go.Proofs.YtcebnaknodghcaaDoor.PAdN Go.Proofs.YtcebnaknodghcaaDoorW.PrintWords
/-- The one pure statement of towropelaw05_AddrNets. -/
def AddrNetsSt : Prop := ∀ (a0 : Int) (a1 : Int) (a2 : Int), (Lit.int .u32 a0).wf = true → (Lit.int .u32 a1).wf = true → (Lit.int .i64 a2).wf = true → ∃ k, towropelaw05_AddrNets.f k a0 a1 a2 = some true
end Go.Proofs.YtcebnaknodghcaaDoor.Pure
