-- Laid by a program of this session (wip/tools/mk.py) over the kit's print: functions, contracts, walks; not written by hand, not trusted: Lean checks it.
import Derived.Test.YtimgfdkndlbfbaaPRpx0
namespace Go.Proofs.Ytimgfdkndlbfbaa.PRp
open Go.RowKit Go.Proofs.YtimgfdkndlbfbaaW.PrintWords Go.Proofs.YtimgfdkndlbfbaaW.PrintLast Go.Proofs.YtimgfdkndlbfbaaW.PrintMore
attribute [local go_sem] max2_int min2_int max_two min_two max_three min_three max_four min_four   -- for this text's walks alone
set_option linter.unusedVariables false
set_option linter.unusedSimpArgs false

theorem eqA105 (d : Nat) (w : World) (x0 y0 : Int) (x1 y1 : Int) :
    (Op.equalIn (d + 2) 105 (.agg #[.int .u32 x0, .int .u16 x1]) (.agg #[.int .u32 y0, .int .u16 y1])).run Try.prog w = .ok (x0 == y0 && (x1 == y1)) w := by
  refine eqA_of Try.underlying105 (by kernel_rfl) ?_
  refine eqf_cons (by rfl) (by go_simp; rfl) (by go_simp; rfl) (by go_simp) ?_
  exact eqf_last (by rfl) (by go_simp; rfl) (by go_simp; rfl) (by go_simp)
end Go.Proofs.Ytimgfdkndlbfbaa.PRp
