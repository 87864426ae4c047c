/- For all addresses, numbers and bytes: the head, and the check sum with it, is told as by definition. No conditions. -/
import Derived.Test.YtcnodelfblpdiaaPSumx1
import Derived.Test.YtcnodelfblpdiaaPSumx7
import Derived.Test.YtcnodelfblpdiaaSumLHead
namespace Go.Proofs.Ytcnodelfblpdiaa.Pure
set_option linter.unusedVariables false
set_option linter.unusedSimpArgs false
open Go.RowKit Go.Proofs.Ytcnodelfblpdiaa.PSum Go.Proofs.YtcnodelfblpdiaaW.PrintWords Go.Proofs.YtcnodelfblpdiaaW.PrintLast Go.Proofs.YtcnodelfblpdiaaW.PrintMore Go.Proofs.Ytcnodelfblpdiaa.Ar Go.Proofs.Ytcnodelfblpdiaa.HSum

theorem heads_live : towropelaw02_live.f = some true := by decide +kernel
theorem SumHeads : towropelaw02_SumHeads.Pure := by
  intro s d p n l hs hd hp hn _ hl hw
  obtain ⟨s0, s1⟩ := bounds_u32 hs
  obtain ⟨d0, d1⟩ := bounds_u32 hd
  obtain ⟨p0, p1⟩ := bounds_u8 hp
  rw [Nat.mul_one] at hl
  have hb := bytesB_wf hw
  refine ⟨l.length + 15 + 5, ?_⟩
  unfold towropelaw02_SumHeads.f
  rw [head_f _ s d p n s0 s1 d0 d1, refhead_f s d p n s0 s1 d0 d1, of_f s d p l s0 s1 d0 d1 p0 p1 (by omega) hb, refof_f _ s d p l s0 s1 d0 d1 p0 p1 hl hb (by omega), heads_live]
  simp
end Go.Proofs.Ytcnodelfblpdiaa.Pure
