import Derived.Test.YtcebnaknodghcaaDoorPTelx5
namespace Go.Proofs.YtcebnaknodghcaaDoor.Pure
open Go.RowKit Go.Proofs.YtcebnaknodghcaaDoor.PTel Go.Proofs.YtcebnaknodghcaaDoorW.PrintWords
/-- The one pure statement of towropelaw34_TellNames. -/
def TellNamesSt : Prop := ∀ (a0 : Int) (a1 : Int) (a2_0 : Int) (a2_1 : Int), (Lit.int .i64 a0).wf = true → (Lit.int .u8 a1).wf = true → (Lit.int .u32 a2_0).wf = true → (Lit.int .u16 a2_1).wf = true → ∃ k, towropelaw34_TellNames.f k a0 a1 a2_0 a2_1 = some true
end Go.Proofs.YtcebnaknodghcaaDoor.Pure
