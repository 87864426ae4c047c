/- For all numbers: the segments that are waited for are told as by definition. No conditions. -/
import Derived.Test.YtcnodelfblpdiaaPSeq2x2
import Derived.Test.YtcnodelfblpdiaaAr
namespace Go.Proofs.Ytcnodelfblpdiaa.Pure
set_option linter.unusedVariables false
set_option linter.unusedSimpArgs false
open Go.RowKit Go.Proofs.Ytcnodelfblpdiaa.PSeq2 Go.Proofs.YtcnodelfblpdiaaW.PrintWords Go.Proofs.YtcnodelfblpdiaaW.PrintLast Go.Proofs.YtcnodelfblpdiaaW.PrintMore Go.Proofs.Ytcnodelfblpdiaa.Ar Go.Proofs.Ytcnodelfblpdiaa.HSeq

theorem acc_in (a b n : Int) (a0 : 0 ≤ a) (a1 : a ≤ 4294967295) (b0 : 0 ≤ b) (b1 : b ≤ 4294967295) (n0 : -9223372036854775808 ≤ n) (n1 : n ≤ 9223372036854775807) :
    towroperef03_In.f a b n = some (inF a b n) := by
  unfold towroperef03_In.f inF
  rw [w64 (n := a) (by omega) (by omega), w64 (n := b) (by omega) (by omega), w64 (n := a - b) (by omega) (by omega)]
  by_cases h : 0 < n
  · rw [decide_eq_true h, Bool.true_and]
    split
    · rw [w64 (by omega) (by omega)]; congr 1; exact decide_eq_decide.2 (by omega)
    · congr 1; exact decide_eq_decide.2 (by omega)
  · rw [decide_eq_false h, Bool.false_and]
    split
    · rw [w64 (by omega) (by omega), decide_eq_false (by omega)]
    · rw [decide_eq_false (by omega)]
theorem acc_add (a n : Int) (a0 : 0 ≤ a) : towroperef03_Add.f a n = some ((a + n) % 4294967296) := by
  unfold towroperef03_Add.f
  rw [u64w, u64w, u64w, tm (n % 18446744073709551616) _ (by omega), tm _ _ (by omega)]
  congr 1
  omega
theorem inF_none (s f n : Int) (h : n ≤ 0) : inF s f n = false := by unfold inF; rw [decide_eq_false (by omega), Bool.false_and]

theorem acc_ref (s l next w : Int) (s0 : 0 ≤ s) (s1 : s ≤ 4294967295) (x0 : 0 ≤ next) (x1 : next ≤ 4294967295) (l0 : -9223372036854775808 ≤ l) (l1 : l ≤ 9223372036854775807) (w0 : -9223372036854775808 ≤ w) (w1 : w ≤ 9223372036854775807) :
    towroperef03_Accept.f 2 s l next w = some (accF s l next w) := by
  have step : ∀ m v, (0 ≤ m ∧ m ≤ 9223372036854775807 ∧ (0 < l → m = l) ∧ (l ≤ 0 → m = 0)) → (0 ≤ v ∧ v ≤ 9223372036854775807 ∧ (0 < w → v = w) ∧ (w ≤ 0 → v = 0)) →
      towroperef03_Accept.j1 1 s m next v = some (accF s l next w) := by
    intro m v ⟨m0, m1, m2, m3⟩ ⟨v0, v1, v2, v3⟩
    simp only [towroperef03_Accept.j1]
    by_cases hl : l ≤ 0
    · rw [m3 hl, if_pos rfl]
      by_cases hw : w ≤ 0
      · have e : accF s l next w = (s == next) := by simp [accF, hl, hw]
        rw [v3 hw, if_pos rfl, e]
        by_cases h : s = next
        · rw [if_pos h, h, beq_self_eq_true]
        · rw [if_neg h, acc_in _ _ _ s0 s1 x0 x1 (by omega) (by omega), inF_none _ _ _ (by omega), beq_eq_false_iff_ne.2 h]; rfl
      · have e : accF s l next w = inF s next w := by simp [accF, hl, hw]
        rw [v2 (by omega), if_neg (by omega), acc_in _ _ _ s0 s1 x0 x1 (by omega) (by omega), e]; rfl
    · have e : accF s l next w = (inF s next w || inF ((s + (l - 1)) % 4294967296) next w) := by simp [accF, hl]
      rw [m2 (by omega), if_neg (by omega), e]
      by_cases hw : w ≤ 0
      · rw [if_neg (by omega), inF_none _ _ _ hw, inF_none _ _ _ hw]; rfl
      · rw [v2 (by omega), if_pos (by omega), acc_in _ _ _ s0 s1 x0 x1 (by omega) (by omega), w64 (n := l - 1) (by omega) (by omega), acc_add _ _ s0]
        simp only [Option.bind_some]
        rw [acc_in _ _ _ (by omega) (by omega) x0 x1 (by omega) (by omega)]
        cases inF s next w <;> rfl
  have step0 : ∀ m, (0 ≤ m ∧ m ≤ 9223372036854775807 ∧ (0 < l → m = l) ∧ (l ≤ 0 → m = 0)) → towroperef03_Accept.j0 2 s m next w = some (accF s l next w) := by
    intro m hm
    simp only [towroperef03_Accept.j0]
    split
    · exact step m 0 hm ⟨by omega, by omega, by omega, by omega⟩
    · exact step m w hm ⟨by omega, by omega, by omega, by omega⟩
  unfold towroperef03_Accept.f
  split
  · exact step0 0 ⟨by omega, by omega, by omega, by omega⟩
  · exact step0 l ⟨by omega, by omega, by omega, by omega⟩

theorem SeqAccepts : towropelaw03_SeqAccepts.Pure := by
  intro s l next w hs hl hn hw
  obtain ⟨s0, s1⟩ := bounds_u32 hs
  obtain ⟨x0, x1⟩ := bounds_u32 hn
  obtain ⟨l0, l1⟩ := bounds_i64 hl
  obtain ⟨w0, w1⟩ := bounds_i64 hw
  have live : towropelaw03_live.f = some true := by decide +kernel
  refine ⟨2, ?_⟩
  unfold towropelaw03_SeqAccepts.f seq_Accept.f
  rw [if_pos ⟨⟨l0, l1⟩, w0, w1⟩, acc_ref s l next w s0 s1 x0 x1 l0 l1 w0 w1, live]
  simp
end Go.Proofs.Ytcnodelfblpdiaa.Pure
