/- For all bytes: what they add up to, what makes them right, and whether they are, is told as by definition. No conditions. -/
import Derived.Test.YtcnodelfblpdiaaPSumx1
import Derived.Test.YtcnodelfblpdiaaSumLSum
namespace Go.Proofs.Ytcnodelfblpdiaa.Pure
set_option linter.unusedVariables false
set_option linter.unusedSimpArgs false
open Go.RowKit Go.Proofs.Ytcnodelfblpdiaa.PSum Go.Proofs.YtcnodelfblpdiaaW.PrintWords Go.Proofs.YtcnodelfblpdiaaW.PrintLast Go.Proofs.YtcnodelfblpdiaaW.PrintMore Go.Proofs.Ytcnodelfblpdiaa.Ar Go.Proofs.Ytcnodelfblpdiaa.HSum

theorem tells_live : towropelaw02_live.f = some true := by decide +kernel
theorem SumTells : towropelaw02_SumTells.Pure := by
  intro l _ hl hw
  rw [Nat.mul_one] at hl
  have hb := bytesB_wf hw
  have ht := sumW_top hb
  refine ⟨l.length + 2, ?_⟩
  unfold towropelaw02_SumTells.f sum_Check.f sum_Right.f
  rw [refsum_f _ l hl hb (Nat.le_refl _), sum_f l hl hb, tells_live]
  simp
end Go.Proofs.Ytcnodelfblpdiaa.Pure
