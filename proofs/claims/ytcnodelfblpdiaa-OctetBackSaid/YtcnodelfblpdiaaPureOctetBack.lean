/- OctetBack: all bytes, every number of its kind. No conditions. -/
import Derived.Test.YtcnodelfblpdiaaQOctetBack
namespace Go.Proofs.Ytcnodelfblpdiaa.Pure
set_option linter.unusedVariables false
set_option linter.unusedSimpArgs false
open Go.RowKit Go.Proofs.Ytcnodelfblpdiaa.POctL
theorem OctetBack : OctetBackSt := by
  intro l0 a1 a2 a3 _ hb hl h1 h2 h3
  have h1' : 0 ≤ a1 ∧ a1 ≤ 65535 := by simpa [Lit.wf, IntKind.min, IntKind.max, IntKind.bits, IntKind.signed] using h1
  have h2' : 0 ≤ a2 ∧ a2 ≤ 4294967295 := by simpa [Lit.wf, IntKind.min, IntKind.max, IntKind.bits, IntKind.signed] using h2
  have h3' : 0 ≤ a3 ∧ a3 ≤ 65535 := by simpa [Lit.wf, IntKind.min, IntKind.max, IntKind.bits, IntKind.signed] using h3
  have hb' : ∀ x ∈ l0, 0 ≤ x ∧ x ≤ 255 := fun x hx => by simpa [Lit.wf, IntKind.min, IntKind.max, IntKind.bits, IntKind.signed] using hb x hx
  unfold towropelaw01_OctetBack.f
  rw [if_pos ⟨hl, h1', h2', h3', hb'⟩]
end Go.Proofs.Ytcnodelfblpdiaa.Pure
