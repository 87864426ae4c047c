import Derived.Test.YtdphjljbdodonaaPIcmpx8
namespace Go.Proofs.Ytdphjljbdodonaa.Pure
open Go.RowKit Go.Proofs.Ytdphjljbdodonaa.PIcmp Go.Proofs.YtdphjljbdodonaaW.PrintWords
/-- The one pure statement of towropelaw07_IcmpCauses. -/
def IcmpCausesSt : Prop := ∀ (a0_0 : Int) (a0_1 : Int) (a0_2 : Int) (l0_3 : List Int) (a1 : Int) (a2 : Int) (l3 : List Int), (Lit.int .u8 a0_0).wf = true → (Lit.int .u8 a0_1).wf = true → (Lit.int .u32 a0_2).wf = true → l0_3.length ≤ maxLen → (∀ x ∈ l0_3, (Lit.int .u8 x).wf = true) → (Lit.int .u8 a1).wf = true → (Lit.int .u8 a2).wf = true → l3.length ≤ maxLen → (∀ x ∈ l3, (Lit.int .u8 x).wf = true) → ∃ k, towropelaw07_IcmpCauses.f k a0_0 a0_1 a0_2 l0_3 a1 a2 l3 = some true
end Go.Proofs.Ytdphjljbdodonaa.Pure
