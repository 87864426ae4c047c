import Derived.Test.YtcnodelfblpdiaaPOctLx2
namespace Go.Proofs.Ytcnodelfblpdiaa.Pure
open Go.RowKit Go.Proofs.Ytcnodelfblpdiaa.POctL Go.Proofs.YtcnodelfblpdiaaW.PrintWords
/-- The one pure statement of towropelaw01_OctetOwn. -/
def OctetOwnSt : Prop := ∀ (l0 : List Int) (a1 : Int), l0.length ≤ maxLen → (∀ x ∈ l0, (Lit.int .u8 x).wf = true) → l0.length ≤ 140737488351232 → (Lit.int .i64 a1).wf = true → towropelaw01_OctetOwn.f l0 a1 = some true
end Go.Proofs.Ytcnodelfblpdiaa.Pure
