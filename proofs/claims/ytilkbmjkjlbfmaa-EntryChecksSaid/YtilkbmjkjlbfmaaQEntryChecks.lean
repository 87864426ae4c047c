import Derived.Test.YtilkbmjkjlbfmaaPEntx9
namespace Go.Proofs.Ytilkbmjkjlbfmaa.Pure
open Go.RowKit Go.Proofs.Ytilkbmjkjlbfmaa.PEnt Go.Proofs.YtilkbmjkjlbfmaaW.PrintWords
/-- The one pure statement of towropelaw26_EntryChecks. -/
def EntryChecksSt : Prop := ∀ (a0_0 : Int) (a0_1 : Int) (a0_2 : Int) (a0_3 : Int) (a0_4 : Int) (a0_5 : Int) (a0_6 : Int) (a0_7 : Int) (a0_8 : Int) (a0_9 : Int) (l0_10 : List Int), (Lit.int .u8 a0_0).wf = true → (Lit.int .u8 a0_1).wf = true → (Lit.int .i64 a0_2).wf = true → (Lit.int .u32 a0_3).wf = true → (Lit.int .u16 a0_4).wf = true → (Lit.int .i64 a0_5).wf = true → (Lit.int .i64 a0_6).wf = true → (Lit.int .i64 a0_7).wf = true → (Lit.int .u64 a0_8).wf = true → (Lit.int .u64 a0_9).wf = true → l0_10.length ≤ maxLen → (∀ x ∈ l0_10, (Lit.int .u8 x).wf = true) → ∃ k, towropelaw26_EntryChecks.f k a0_0 a0_1 a0_2 a0_3 a0_4 a0_5 a0_6 a0_7 a0_8 a0_9 l0_10 = some true
end Go.Proofs.Ytilkbmjkjlbfmaa.Pure
