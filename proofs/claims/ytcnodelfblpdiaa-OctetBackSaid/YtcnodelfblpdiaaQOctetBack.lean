import Derived.Test.YtcnodelfblpdiaaPOctLx1
namespace Go.Proofs.Ytcnodelfblpdiaa.Pure
open Go.RowKit Go.Proofs.Ytcnodelfblpdiaa.POctL Go.Proofs.YtcnodelfblpdiaaW.PrintWords
/-- The one pure statement of towropelaw01_OctetBack. -/
def OctetBackSt : Prop := ∀ (l0 : List Int) (a1 : Int) (a2 : Int) (a3 : Int), l0.length ≤ maxLen → (∀ x ∈ l0, (Lit.int .u8 x).wf = true) → l0.length ≤ 140737488351232 → (Lit.int .u16 a1).wf = true → (Lit.int .u32 a2).wf = true → (Lit.int .u16 a3).wf = true → towropelaw01_OctetBack.f l0 a1 a2 a3 = some true
end Go.Proofs.Ytcnodelfblpdiaa.Pure
