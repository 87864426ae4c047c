/- FragSplits: the pieces are the document's, and the packet stays: true. No conditions. -/
import Derived.Test.YtfmfpofbefgbgaaQFragSplits
namespace Go.Proofs.Ytfmfpofbefgbgaa.Pure
set_option linter.unusedVariables false
set_option linter.unusedSimpArgs false
open Go.RowKit Go.Proofs.Ytfmfpofbefgbgaa.PFragL
theorem FragSplits : FragSplitsSt := by
  intro a0_0 a0_1 a0_2 a0_3 a0_4 a0_5 a0_6 a0_7 a0_8 l0_9 l0_10 a1
  intros
  unfold towropelaw11_FragSplits.f
  rw [if_pos]
  refine List.all_eq_true.2 fun x hx => ?_
  rename_i h9 _ _ _
  have := h9 x hx
  simp [Lit.wf, IntKind.min, IntKind.max, IntKind.signed, IntKind.bits] at this
  simp
  omega
end Go.Proofs.Ytfmfpofbefgbgaa.Pure
