/- For all bytes: they are got as a packet, or refused, as by definition; what is got is memory of its own. No conditions. Conditions: each lemma's own. -/
import Derived.Test.YtdphjljbdodonaaPIpx12
import Derived.Test.YtdphjljbdodonaaIpLIpRef
namespace Go.Proofs.Ytdphjljbdodonaa.Pure
set_option linter.unusedVariables false
set_option linter.unusedSimpArgs false
open Go.RowKit Go.Proofs.Ytdphjljbdodonaa.PIp Go.Proofs.YtdphjljbdodonaaW.PrintWords Go.Proofs.YtdphjljbdodonaaW.PrintLast Go.Proofs.YtdphjljbdodonaaW.PrintMore Go.Proofs.Ytdphjljbdodonaa.Ar Go.Proofs.Ytdphjljbdodonaa.HSum Go.Proofs.Ytdphjljbdodonaa.HExt

theorem gets_loop (l : List Int) : ∀ (d i k : Nat) (p0 p1 : Int) (p2 p3 : Bool) (p4 p5 p6 p7 p8 : Int) (p9 p10 : List Int), i + d = p10.length → p10.length ≤ 70000 → d + 11 < k → towropelaw06_IpGets.l0 k l (strOfNums l) i p0 p1 p2 p3 p4 p5 p6 p7 p8 p9 p10 = some true := by
  intro d
  induction d with
  | zero =>
    intro i k p0 p1 p2 p3 p4 p5 p6 p7 p8 p9 p10 hi _ hk
    obtain ⟨k, rfl⟩ : ∃ m, k = m + 11 := ⟨k - 11, by omega⟩
    simp only [towropelaw06_IpGets.l0]
    rw [if_neg (by omega)]
    simp only [if_true]
    rw [ip_live k]
    rfl
  | succ d ih =>
    intro i k p0 p1 p2 p3 p4 p5 p6 p7 p8 p9 p10 hi hl hk
    obtain ⟨k, rfl⟩ : ∃ m, k = m + 1 := ⟨k - 1, by omega⟩
    simp only [towropelaw06_IpGets.l0]
    rw [if_pos (by omega), if_pos (by omega), w64 (by omega) (by omega), show ((i : Int) + 1) = ((i + 1 : Nat) : Int) by omega]
    exact ih (i + 1) k _ _ _ _ _ _ _ _ _ _ _ (by rw [List.length_set]; omega) (by rw [List.length_set]; omega) (by omega)
theorem getIp_len (l : List Int) : (getIp l).2.2.2.2.2.2.2.2.2.2.1.length ≤ l.length := by
  unfold getIp noIp
  repeat' split
  all_goals simp
  all_goals omega
theorem IpGets : towropelaw06_IpGets.Pure := by
  intro l _ hl hw
  have h := bytesB_wf hw
  refine ⟨l.length + 30, ?_⟩
  unfold towropelaw06_IpGets.f
  split
  · rw [show l.length + 30 = l.length + 20 + 10 by omega, ip_live]; rfl
  · rename_i h7
    rw [show l.length + 30 = l.length + 23 + 7 by omega, ipget_f (l.length + 23) l h (by omega), refget_f _ l h (by omega) (by omega)]
    have hg := getIp_len l
    generalize getIp l = p at *
    simp only [Option.bind_some, ipcode_f, if_true, ipsame_refl]
    rw [show l.length + 23 + 7 = l.length + 29 + 1 by omega]
    simp only [towropelaw06_IpGets.j0]
    rw [if_neg (by simp)]
    exact gets_loop l _ 0 _ _ _ _ _ _ _ _ _ _ _ _ (Nat.zero_add _) (by omega) (by omega)
end Go.Proofs.Ytdphjljbdodonaa.Pure
