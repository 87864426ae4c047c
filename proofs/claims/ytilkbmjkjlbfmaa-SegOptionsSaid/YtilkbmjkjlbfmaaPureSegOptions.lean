/- What any options are as bytes, and what any bytes are as options: the program's answer is the document's. No conditions. -/
import Derived.Test.YtilkbmjkjlbfmaaPSegx2
import Derived.Test.YtilkbmjkjlbfmaaPSegx6
import Derived.Test.YtilkbmjkjlbfmaaPSegx7
import Derived.Test.YtilkbmjkjlbfmaaSegLSegRead
import Derived.Test.YtilkbmjkjlbfmaaSegLTwo
namespace Go.Proofs.Ytilkbmjkjlbfmaa.Pure
set_option linter.unusedVariables false
set_option linter.unusedSimpArgs false
open Go.RowKit Go.Proofs.Ytilkbmjkjlbfmaa.PSeg Go.Proofs.YtilkbmjkjlbfmaaW.PrintWords Go.Proofs.YtilkbmjkjlbfmaaW.PrintLast Go.Proofs.YtilkbmjkjlbfmaaW.PrintMore Go.Proofs.Ytilkbmjkjlbfmaa.Ar Go.Proofs.Ytilkbmjkjlbfmaa.HSum Go.Proofs.Ytilkbmjkjlbfmaa.HExt Go.Proofs.Ytilkbmjkjlbfmaa.HRead

theorem opts_live : ∀ k, towropelaw09_live.f (k + 10) = some true := by
  intro k
  induction k with
  | zero => decide +kernel
  | succ k ih => exact towropelaw09_live.mono (k + 10) true ih
theorem refoptions_f (m s : Int) (m0 : 0 ≤ m ∧ m ≤ 65535) (s0 : 0 ≤ s ∧ s ≤ 15) : towroperef09_Options.f m s = some (optB m s) := by
  have e : s ≠ 0 → wrap64 (s - 1) % 256 = s - 1 := fun h => by rw [w64 (by omega) (by omega)]; omega
  unfold towroperef09_Options.f optB
  by_cases hm : m = 0
  · rw [if_neg (by omega), if_pos hm]
    by_cases hs : s = 0
    · rw [if_neg (by omega), if_pos hs]; rfl
    · rw [if_pos (by omega), if_neg hs, Option.bind_some, if_pos (by simp only [List.length_cons, List.length_nil]; omega), e hs]
  · rw [if_pos (by omega), if_neg hm, Option.bind_some, two_f, Option.bind_some, if_pos (by simp only [twoS, List.length_cons, List.length_nil]; omega), Option.bind_some]
    by_cases hs : s = 0
    · rw [if_neg (by omega), if_pos hs, List.append_nil]
    · rw [if_pos (by omega), if_neg hs, Option.bind_some, if_pos (by simp only [twoS, List.length_append, List.length_cons, List.length_nil]; omega), e hs]
theorem SegOptions : towropelaw09_SegOptions.Pure := by
  intro m s l hm hs _ hl hw
  have h := bytesB_wf hw
  have m0 := bounds_u16 hm
  have s0 := bounds_u8 hs
  refine ⟨3 * l.length + 10, ?_⟩
  unfold towropelaw09_SegOptions.f
  by_cases h7 : (l.length : Int) > 1000
  · rw [if_pos h7, opts_live, Option.bind_some]
  have q0 : 0 ≤ s % 16 ∧ s % 16 ≤ 15 := by omega
  obtain ⟨r, hr, hr'⟩ := read_f (3 * l.length + 10) l h (by omega) (by omega)
  rw [if_neg h7, w64 (n := m) (by omega) (by omega), w64 (n := s) (by omega) (by omega), tm _ _ s0.1, show 3 * l.length + 10 = 3 * l.length + 7 + 3 by omega, options_f (3 * l.length + 7) 0 0 0 0 0 0 m (s % 16) [] m0 q0, Option.bind_some, read_opt m (s % 16) m0 q0, Option.bind_some, hr, Option.bind_some,
    show 3 * l.length + 7 + 3 = 3 * l.length + 10 by omega, hr', Option.bind_some, refoptions_f m (s % 16) m0 q0, Option.bind_some, if_pos rfl, if_pos rfl, if_pos rfl]
  unfold towropelaw09_code.f
  rw [Option.bind_some, if_pos rfl, if_pos rfl, if_pos rfl, Option.bind_some, if_pos rfl, opts_live, Option.bind_some]
end Go.Proofs.Ytilkbmjkjlbfmaa.Pure
