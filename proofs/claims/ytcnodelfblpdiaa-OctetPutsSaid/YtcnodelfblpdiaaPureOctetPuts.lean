/- OctetPuts: all bytes, every number of 32 bits. No conditions. -/
import Derived.Test.YtcnodelfblpdiaaQOctetPuts
namespace Go.Proofs.Ytcnodelfblpdiaa.Pure
set_option linter.unusedVariables false
set_option linter.unusedSimpArgs false
open Go.RowKit Go.Proofs.Ytcnodelfblpdiaa.POctL
theorem OctetPuts : OctetPutsSt := by
  intro l0 a1 a2 _ _ hl _ h2
  have h2' : 0 ≤ a2 ∧ a2 ≤ 4294967295 := by simpa [Lit.wf, IntKind.min, IntKind.max, IntKind.bits, IntKind.signed] using h2
  unfold towropelaw01_OctetPuts.f
  rw [if_pos ⟨hl, h2'⟩]
end Go.Proofs.Ytcnodelfblpdiaa.Pure
