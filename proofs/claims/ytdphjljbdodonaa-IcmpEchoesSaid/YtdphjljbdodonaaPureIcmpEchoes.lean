/- What any question is, and the answer to any message. No conditions. -/
import Derived.Test.YtdphjljbdodonaaPIcmpx1
import Derived.Test.YtdphjljbdodonaaPIcmpx8
import Derived.Test.YtdphjljbdodonaaPIcmpx9
import Derived.Test.YtdphjljbdodonaaQIcmpEchoes
import Derived.Test.YtdphjljbdodonaaIcmpLIcmp
namespace Go.Proofs.Ytdphjljbdodonaa.Pure
set_option linter.unusedVariables false
set_option linter.unusedSimpArgs false
open Go.RowKit Go.Proofs.Ytdphjljbdodonaa.PIcmp Go.Proofs.YtdphjljbdodonaaW.PrintWords Go.Proofs.YtdphjljbdodonaaW.PrintLast Go.Proofs.YtdphjljbdodonaaW.PrintMore Go.Proofs.Ytdphjljbdodonaa.Ar Go.Proofs.Ytdphjljbdodonaa.HSum

theorem or16 (a b : Int) (a0 : 0 ≤ a ∧ a ≤ 65535) (b0 : 0 ≤ b ∧ b ≤ 65535) : Go.bits .or .u32 (a * 65536) b = a * 65536 + b :=
  bits_join .u32 32 (by decide) (fun n h0 h1 => by rw [IntKind.wrap_u32]; omega) 16 (a * 65536) b (by omega) (by omega) (by omega) b0.1 (by omega) (by omega)
theorem echoes_j0 (k : Nat) (t c r : Int) (l : List Int) (q : Int) (b : Bool) (hb : (b = true) ↔ ¬ (t = 8 ∧ c = 0)) (e a0 a1 a2 : Int) (al : List Int)
    (ha : icmp_Reply.f t c r l = some (a0, a1, a2, al, e)) (q2 : Int) (y0 y1 : Int) (ql yl : List Int) (q0 q1 : Int) (hq : q2 = q) : towropelaw07_IcmpEchoes.j0 (k + 6) e 0 b t c r l q0 q1 q ql a0 a1 a2 al y0 y1 q2 yl = some true := by
  simp only [towropelaw07_IcmpEchoes.j0]
  rw [icmp_live k]
  unfold icmp_Reply.f at ha
  by_cases h : t = 8 ∧ c = 0
  · obtain ⟨rfl, rfl⟩ := h
    rw [if_neg (by simp at hb; simp [hb])]
    rw [if_pos rfl, if_pos rfl] at ha
    obtain ⟨z, hz, ha⟩ := Option.bind_eq_some_iff.1 ha
    unfold slices_Clone_byte_byte.f at hz
    split at hz
    · simp only [Option.some.injEq] at hz
      subst hz
      simp only [Option.some.injEq, Prod.mk.injEq] at ha
      obtain ⟨rfl, rfl, rfl, rfl, rfl⟩ := ha
      simp [code_f, same_refl, hq, w64 (n := 0) (by omega) (by omega)]
    · cases hz
  · rw [if_pos (hb.2 h)]
    have : (a0, a1, a2, al, e) = ((0, 0, 0, [], 6) : Int × Int × Int × List Int × Int) := by
      by_cases h8 : t = 8
      · rw [if_pos h8, if_neg (fun hc => h ⟨h8, hc⟩)] at ha
        simpa using ha.symm
      · rw [if_neg h8] at ha
        simpa using ha.symm
    simp only [Prod.mk.injEq] at this
    obtain ⟨rfl, rfl, rfl, rfl, rfl⟩ := this
    simp [code_f, same_refl]
theorem reply_some (t c r : Int) (l : List Int) (hl : l.length ≤ 1000) : ∃ a0 a1 a2 al e, icmp_Reply.f t c r l = some (a0, a1, a2, al, e) := by
  unfold icmp_Reply.f
  split
  · split
    · rw [clone_f _ (by omega)]
      exact ⟨_, _, _, _, _, rfl⟩
    · exact ⟨_, _, _, _, _, rfl⟩
  · exact ⟨_, _, _, _, _, rfl⟩
theorem IcmpEchoes : IcmpEchoesSt := by
  intro t c r l a b ht hc hr _ hw ha hb
  have a0 := bounds_u16 ha
  have b0 := bounds_u16 hb
  refine ⟨6, ?_⟩
  unfold towropelaw07_IcmpEchoes.f
  split
  · rw [icmp_live 1]; rfl
  · rename_i hl
    unfold icmp_Echo.f
    rw [clone_f l (by omega)]
    simp only [Option.bind_some]
    have e1 : a % 4294967296 * 65536 % 4294967296 = a * 65536 := by omega
    have e2 : b % 4294967296 = b := by omega
    have e3 : (a * 65536 + b) % 4294967296 = a * 65536 + b := by omega
    rw [e1, e2, e3, or16 a b a0 b0, same_refl]
    simp only [Option.bind_some, if_true]
    obtain ⟨x0, x1, x2, xl, e, hx⟩ := reply_some t c r l (by omega)
    have hy : icmp_Reply.f 8 0 (a * 65536 + b) l = some (0, 0, a * 65536 + b, l, 0) := by
      unfold icmp_Reply.f
      rw [if_pos rfl, if_pos rfl, clone_f _ (by omega)]
      rfl
    rw [hx, hy]
    simp only [Option.bind_some]
    by_cases h8 : t = 8
    · rw [if_pos h8]
      exact echoes_j0 0 t c r l _ _ (by simp [h8]) e x0 x1 x2 xl hx _ _ _ _ _ _ _ rfl
    · rw [if_neg h8]
      exact echoes_j0 0 t c r l _ _ (by simp [h8]) e x0 x1 x2 xl hx _ _ _ _ _ _ _ rfl
end Go.Proofs.Ytdphjljbdodonaa.Pure
