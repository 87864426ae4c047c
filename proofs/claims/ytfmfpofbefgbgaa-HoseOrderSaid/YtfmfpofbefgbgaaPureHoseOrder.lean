/- HoseOrder: every room is of 16 bits, every piece's length a byte. No conditions. -/
import Derived.Test.YtfmfpofbefgbgaaQHoseOrder
namespace Go.Proofs.Ytfmfpofbefgbgaa.Pure
set_option linter.unusedVariables false
set_option linter.unusedSimpArgs false
open Go.RowKit Go.Proofs.Ytfmfpofbefgbgaa.PHoseL
theorem HoseOrder : HoseOrderSt := by
  intro a0 l1 l2 h0 _ _ _ h2
  have h0' : 0 ≤ a0 ∧ a0 ≤ 65535 := by simpa [Lit.wf, IntKind.min, IntKind.max, IntKind.bits, IntKind.signed] using h0
  have h2' : ∀ x ∈ l2, 0 ≤ x ∧ x ≤ 255 := fun x hx => by simpa [Lit.wf, IntKind.min, IntKind.max, IntKind.bits, IntKind.signed] using h2 x hx
  unfold towropelaw15_HoseOrder.f
  rw [if_pos ⟨h0'.1, h0'.2, h2'⟩]
end Go.Proofs.Ytfmfpofbefgbgaa.Pure
