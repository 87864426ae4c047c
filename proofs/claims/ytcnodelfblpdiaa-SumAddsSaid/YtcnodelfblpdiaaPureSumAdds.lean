/- For all numbers: what two add up to, the carry brought round, and what a check sum becomes, is told as by definition. No conditions. -/
import Derived.Test.YtcnodelfblpdiaaPSumx1
import Derived.Test.YtcnodelfblpdiaaPSumx2
import Derived.Test.YtcnodelfblpdiaaSumLTurn
namespace Go.Proofs.Ytcnodelfblpdiaa.Pure
set_option linter.unusedVariables false
set_option linter.unusedSimpArgs false
open Go.RowKit Go.Proofs.Ytcnodelfblpdiaa.PSum Go.Proofs.YtcnodelfblpdiaaW.PrintWords Go.Proofs.YtcnodelfblpdiaaW.PrintLast Go.Proofs.YtcnodelfblpdiaaW.PrintMore Go.Proofs.Ytcnodelfblpdiaa.Ar Go.Proofs.Ytcnodelfblpdiaa.HSum

theorem adds_live : towropelaw02_live.f = some true := by decide +kernel
theorem SumAdds : towropelaw02_SumAdds.Pure := by
  intro a b c ha hb hc
  obtain ⟨a0, a1⟩ := bounds_i64 ha
  obtain ⟨b0, b1⟩ := bounds_i64 hb
  unfold towropelaw02_SumAdds.f
  rw [sumadd_f, refadd_f, turn_f a b c a0 a1 b0 b1, refturn_f, adds_live]
  simp
end Go.Proofs.Ytcnodelfblpdiaa.Pure
