import Derived.Test.YtdphjljbdodonaaPIpBx8
namespace Go.Proofs.Ytdphjljbdodonaa.Pure
open Go.RowKit Go.Proofs.Ytdphjljbdodonaa.PIpB Go.Proofs.YtdphjljbdodonaaW.PrintWords
/-- The one pure statement of towropelaw06_IpBack. -/
def IpBackSt : Prop := ∀ (l0 : List Int), l0.length ≤ maxLen → (∀ x ∈ l0, (Lit.int .u8 x).wf = true) → ∃ k, towropelaw06_IpBack.f k l0 = some true
end Go.Proofs.Ytdphjljbdodonaa.Pure
