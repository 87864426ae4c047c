/- For any message: its bytes, got again as it was; or the error that it is too long. No conditions. -/
import Derived.Test.YtdphjljbdodonaaPIcmpx6
import Derived.Test.YtdphjljbdodonaaQIcmpPuts
import Derived.Test.YtdphjljbdodonaaIcmpLIcmp
namespace Go.Proofs.Ytdphjljbdodonaa.Pure
set_option linter.unusedVariables false
set_option linter.unusedSimpArgs false
open Go.RowKit Go.Proofs.Ytdphjljbdodonaa.PIcmp Go.Proofs.YtdphjljbdodonaaW.PrintWords Go.Proofs.YtdphjljbdodonaaW.PrintLast Go.Proofs.YtdphjljbdodonaaW.PrintMore Go.Proofs.Ytdphjljbdodonaa.Ar Go.Proofs.Ytdphjljbdodonaa.HSum

theorem IcmpPuts : IcmpPutsSt := by
  intro t c r l ht hc hr _ hw
  have h := bytesB_wf hw
  have t0 := bounds_u8 ht
  have c0 := bounds_u8 hc
  have r0 := bounds_u32 hr
  refine ⟨l.length + 25, ?_⟩
  have hL := icmp_live (l.length + 20)
  rw [show l.length + 20 + 5 = l.length + 25 by omega] at hL
  unfold towropelaw07_IcmpPuts.f
  rw [hL]
  split
  · rfl
  · rename_i h7
    have hp := icmpput_f (l.length + 20) t c r l t0 c0 r0 h
    rw [show l.length + 20 + 5 = l.length + 25 by omega] at hp
    rw [hp]
    by_cases h6 : (l.length : Int) > 65507
    · rw [if_pos h6]
      simp only [Option.bind_some]
      rw [if_pos h6]
      simp [code_f]
    · rw [if_neg h6]
      simp only [Option.bind_some]
      rw [if_neg h6]
      have hg := msg_get (r := r) t0 c0 r0 h (by omega) (l.length + 20)
      rw [show l.length + 20 + 5 = l.length + 25 by omega] at hg
      rw [hg, refbytes_f (l.length + 25) t c r l t0 c0 r0 h (by omega) (by omega)]
      simp [code_f, same_refl, isame_refl, w64 (n := 0) (by omega) (by omega)]
end Go.Proofs.Ytdphjljbdodonaa.Pure
