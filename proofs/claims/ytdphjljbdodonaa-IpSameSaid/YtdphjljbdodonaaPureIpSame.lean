/- For any two packets: whether they are the same is told as by definition. No conditions. Conditions: each lemma's own. -/
import Derived.Test.YtdphjljbdodonaaPIpx18
import Derived.Test.YtdphjljbdodonaaQIpSame
import Derived.Test.YtdphjljbdodonaaIpLIp
namespace Go.Proofs.Ytdphjljbdodonaa.Pure
set_option linter.unusedVariables false
set_option linter.unusedSimpArgs false
open Go.RowKit Go.Proofs.Ytdphjljbdodonaa.PIp Go.Proofs.YtdphjljbdodonaaW.PrintWords Go.Proofs.YtdphjljbdodonaaW.PrintLast Go.Proofs.YtdphjljbdodonaaW.PrintMore Go.Proofs.Ytdphjljbdodonaa.Ar Go.Proofs.Ytdphjljbdodonaa.HSum Go.Proofs.Ytdphjljbdodonaa.HExt

theorem IpSame : IpSameSt := by
  intro a0 a1 a2 a3 a4 a5 a6 a7 a8 a9 a10 b0 b1 b2 b3 b4 b5 b6 b7 b8 b9 b10
  intros
  refine ⟨10, ?_⟩
  unfold towropelaw06_IpSame.f
  obtain ⟨z, hz⟩ := ipsame_some a0 a1 a2 a3 a4 a5 a6 a7 a8 a9 a10 b0 b1 b2 b3 b4 b5 b6 b7 b8 b9 b10
  rw [ipsame_eq, ipsame_eq, hz, ipsame_refl, ip_live 0]
  simp
end Go.Proofs.Ytdphjljbdodonaa.Pure
