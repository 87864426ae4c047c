import Derived.Test.YtilkbmjkjlbfmaaPSegPx10
namespace Go.Proofs.Ytilkbmjkjlbfmaa.Pure
open Go.RowKit Go.Proofs.Ytilkbmjkjlbfmaa.PSegP Go.Proofs.YtilkbmjkjlbfmaaW.PrintWords
/-- The one pure statement of towropelaw09_SegPuts. -/
def SegPutsSt : Prop := ∀ (a0 : Int) (a1 : Int) (a2_0 : Int) (a2_1 : Int) (a2_2 : Int) (a2_3 : Int) (a2_4 : Int) (a2_5 : Int) (a2_6 : Int) (a2_7 : Int) (l2_8 : List Int), (Lit.int .u32 a0).wf = true → (Lit.int .u32 a1).wf = true → (Lit.int .u16 a2_0).wf = true → (Lit.int .u16 a2_1).wf = true → (Lit.int .u32 a2_2).wf = true → (Lit.int .u32 a2_3).wf = true → (Lit.int .u8 a2_4).wf = true → (Lit.int .u16 a2_5).wf = true → (Lit.int .i64 a2_6).wf = true → (Lit.int .i64 a2_7).wf = true → l2_8.length ≤ maxLen → (∀ x ∈ l2_8, (Lit.int .u8 x).wf = true) → ∃ k, towropelaw09_SegPuts.f k a0 a1 a2_0 a2_1 a2_2 a2_3 a2_4 a2_5 a2_6 a2_7 l2_8 = some true
end Go.Proofs.Ytilkbmjkjlbfmaa.Pure
