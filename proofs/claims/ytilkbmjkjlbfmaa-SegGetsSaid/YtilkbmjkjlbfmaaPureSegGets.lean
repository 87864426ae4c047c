/- For all bytes: they are got as a segment, or refused, as by definition. No conditions. -/
import Derived.Test.YtilkbmjkjlbfmaaPSegx12
import Derived.Test.YtilkbmjkjlbfmaaSegLSegGet
namespace Go.Proofs.Ytilkbmjkjlbfmaa.Pure
set_option linter.unusedVariables false
set_option linter.unusedSimpArgs false
open Go.RowKit Go.Proofs.Ytilkbmjkjlbfmaa.PSeg Go.Proofs.YtilkbmjkjlbfmaaW.PrintWords Go.Proofs.YtilkbmjkjlbfmaaW.PrintLast Go.Proofs.YtilkbmjkjlbfmaaW.PrintMore Go.Proofs.Ytilkbmjkjlbfmaa.Ar Go.Proofs.Ytilkbmjkjlbfmaa.HSum Go.Proofs.Ytilkbmjkjlbfmaa.HExt

theorem SegGets : towropelaw09_SegGets.Pure := by
  intro s d l hs hd _ hl hw
  have h := bytesB_wf hw
  have s0 := bounds_u32 hs
  have d0 := bounds_u32 hd
  refine ⟨3 * l.length + 30, ?_⟩
  unfold towropelaw09_SegGets.f
  by_cases h7 : (l.length : Int) > 70000
  · rw [if_pos h7, show 3 * l.length + 30 = 3 * l.length + 20 + 10 by omega, seg_live, Option.bind_some]
  rw [if_neg h7, refsegget_f (3 * l.length + 30) s d l s0 d0 h (by omega) (by omega), show 3 * l.length + 30 = 3 * l.length + 25 + 5 by omega, segget_f (3 * l.length + 25) s d l s0 d0 h (by omega), Option.bind_some, Option.bind_some, seg_code, Option.bind_some, if_pos rfl, segsame_refl, Option.bind_some, if_pos rfl,
    show 3 * l.length + 25 + 5 = 3 * l.length + 20 + 10 by omega, seg_live, Option.bind_some]
end Go.Proofs.Ytilkbmjkjlbfmaa.Pure
