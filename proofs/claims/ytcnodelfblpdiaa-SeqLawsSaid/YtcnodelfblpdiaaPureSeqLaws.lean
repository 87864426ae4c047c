/- For all numbers: the way back is as long, adding goes on, and what is wanted is accepted. No conditions. -/
import Derived.Test.YtcnodelfblpdiaaPSeq2x2
import Derived.Test.YtcnodelfblpdiaaAr
namespace Go.Proofs.Ytcnodelfblpdiaa.Pure
set_option linter.unusedVariables false
set_option linter.unusedSimpArgs false
open Go.RowKit Go.Proofs.Ytcnodelfblpdiaa.PSeq2 Go.Proofs.YtcnodelfblpdiaaW.PrintWords Go.Proofs.YtcnodelfblpdiaaW.PrintLast Go.Proofs.YtcnodelfblpdiaaW.PrintMore Go.Proofs.Ytcnodelfblpdiaa.Ar Go.Proofs.Ytcnodelfblpdiaa.HSeq

theorem laws_j0 (a b l w : Int) (a0 : 0 ≤ a) (a1 : a ≤ 4294967295) (b0 : 0 ≤ b) (b1 : b ≤ 4294967295) (l0 : 0 ≤ l) (l1 : l ≤ 65535) (w0 : 0 ≤ w) (w1 : w ≤ 65535) (q : Bool) (hq : q = false) :
    towropelaw03_SeqLaws.j0 1 a b l w q = some true := by
  have live : towropelaw03_live.f = some true := by decide +kernel
  subst hq
  simp only [towropelaw03_SeqLaws.j0]
  rw [if_neg (by simp), w64 (n := l) (by omega) (by omega), w64 (n := w) (by omega) (by omega), live]
  unfold seq_Trim.f seq_clip.f seq_Diff.f seq_Add.f seq_Accept.f
  simp only [Option.bind_some]
  have e1 : mn (mx l 0) 1048576 = l := by unfold mn mx; repeat' split <;> omega
  have e2 : mn (mx w 0) 1048576 = w := by unfold mn mx; repeat' split <;> omega
  rw [e1, e2]
  obtain ⟨D, hD⟩ : ∃ D, D = wrap64 (wrap32 ((b - a) % 4294967296)) := ⟨_, rfl⟩
  have D0 : -2147483648 ≤ D := by unfold wrap64 wrap32 at hD; omega
  have D1 : D ≤ 2147483647 := by unfold wrap64 wrap32 at hD; omega
  have D2 : (b - a - D) % 4294967296 = 0 := by unfold wrap64 wrap32 at hD; omega
  rw [← hD, w64 (n := D + w) (by omega) (by omega)]
  clear hD
  by_cases h : mx D 0 ≥ mn (D + w) l
  · rw [if_pos h]; rfl
  · rw [if_neg h]
    obtain ⟨f, hf⟩ : ∃ f, f = mx D 0 := ⟨_, rfl⟩
    obtain ⟨t, ht⟩ : ∃ t, t = mn (D + w) l := ⟨_, rfl⟩
    have f0 : D ≤ f ∧ 0 ≤ f ∧ (f = D ∨ f = 0) := by rw [hf]; unfold mx; split <;> omega
    have t0 : t ≤ D + w ∧ t ≤ l := by rw [ht]; unfold mn; split <;> omega
    have hft : f < t := by rw [hf, ht]; omega
    rw [← hf, ← ht]
    clear hf ht h
    simp only [Option.bind_some]
    rw [if_neg (by omega), w64 (n := t - f) (by omega) (by omega), if_pos ⟨⟨by omega, by omega⟩, by omega, by omega⟩]
    have hin : inF ((a + f % 4294967296) % 4294967296) b w = true := by
      unfold inF
      rw [decide_eq_true (by omega : 0 < w), decide_eq_true (by omega)]
      rfl
    have ha : accF ((a + f % 4294967296) % 4294967296) (t - f) b w = true := by
      unfold accF
      rw [if_neg (by omega), hin]
      rfl
    rw [ha]
    rfl

theorem SeqLaws : towropelaw03_SeqLaws.Pure := by
  intro a b l w ha hb hl hw
  obtain ⟨a0, a1⟩ := bounds_u32 ha
  obtain ⟨b0, b1⟩ := bounds_u32 hb
  obtain ⟨l0, l1⟩ := bounds_u16 hl
  obtain ⟨w0, w1⟩ := bounds_u16 hw
  have J := laws_j0 a b l w a0 a1 b0 b1 l0 l1 w0 w1
  refine ⟨1, ?_⟩
  unfold towropelaw03_SeqLaws.f seq_Less.f seq_Diff.f seq_Add.f
  simp only [Option.bind_some]
  obtain ⟨d, hd⟩ : ∃ d, d = wrap64 (wrap32 ((a - b) % 4294967296)) := ⟨_, rfl⟩
  obtain ⟨e, he⟩ : ∃ e, e = wrap64 (wrap32 ((b - a) % 4294967296)) := ⟨_, rfl⟩
  rw [← hd, ← he]
  have d0 : -2147483648 ≤ d ∧ d ≤ 2147483647 := by unfold wrap64 wrap32 at hd; omega
  have e0 : -2147483648 ≤ e ∧ e ≤ 2147483647 := by unfold wrap64 wrap32 at he; omega
  have de : d + e = 0 ∨ (d = -2147483648 ∧ e = d) := by unfold wrap64 wrap32 at hd he; omega
  have ad : (b + d % 4294967296) % 4294967296 = a := by unfold wrap64 wrap32 at hd; omega
  rw [w64 (n := d + e) (by omega) (by omega), ad]
  clear hd he
  have last : ∀ q : Bool, (q = (d != e)) → (if decide (d < 0) = true then (if decide (e < 0) = true then towropelaw03_SeqLaws.j0 1 a b l w q else towropelaw03_SeqLaws.j0 1 a b l w false) else towropelaw03_SeqLaws.j0 1 a b l w false) = some true := by
    rintro q rfl
    split
    · rename_i h1
      split
      · rename_i h2
        have : d = e := by have := of_decide_eq_true h1; have := of_decide_eq_true h2; omega
        exact J _ (by rw [this, bne_self_eq_false])
      · exact J _ rfl
    · exact J _ rfl
  rcases de with h | ⟨h1, h2⟩
  · rw [if_pos h, if_pos rfl]
    exact last _ rfl
  · rw [if_neg (by omega), if_pos h1, if_pos h2, if_pos rfl]
    exact last _ rfl
end Go.Proofs.Ytcnodelfblpdiaa.Pure
