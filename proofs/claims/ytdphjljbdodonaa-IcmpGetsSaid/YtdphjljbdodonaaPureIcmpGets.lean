/- For all bytes: they are got as a message, or refused, as by definition. No conditions. -/
import Derived.Test.YtdphjljbdodonaaPIcmpx7
import Derived.Test.YtdphjljbdodonaaIcmpLIcmp
namespace Go.Proofs.Ytdphjljbdodonaa.Pure
set_option linter.unusedVariables false
set_option linter.unusedSimpArgs false
open Go.RowKit Go.Proofs.Ytdphjljbdodonaa.PIcmp Go.Proofs.YtdphjljbdodonaaW.PrintWords Go.Proofs.YtdphjljbdodonaaW.PrintLast Go.Proofs.YtdphjljbdodonaaW.PrintMore Go.Proofs.Ytdphjljbdodonaa.Ar Go.Proofs.Ytdphjljbdodonaa.HSum

theorem IcmpGets : towropelaw07_IcmpGets.Pure := by
  intro l _ hl hw
  rw [Nat.mul_one] at hl
  have h := bytesB_wf hw
  refine ⟨l.length + 8, ?_⟩
  have hL := icmp_live (l.length + 3)
  rw [show l.length + 3 + 5 = l.length + 8 by omega] at hL
  unfold towropelaw07_IcmpGets.f
  rw [hL]
  split
  · rfl
  · have hg := icmpget_f (l.length + 3) l h hl
    rw [show l.length + 3 + 5 = l.length + 8 by omega] at hg
    rw [hg, refget_f (l.length + 8) l h hl (by omega)]
    split
    · simp [code_f, same_refl]
    · split
      · simp [code_f, same_refl]
      · simp [code_f, same_refl]
end Go.Proofs.Ytdphjljbdodonaa.Pure
