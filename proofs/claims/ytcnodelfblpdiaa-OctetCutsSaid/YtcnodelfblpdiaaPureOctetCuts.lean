/- For all bytes and numbers: what is cut out, or the error, is told as by definition. No conditions. -/
import Derived.Test.YtcnodelfblpdiaaPOctx3
import Derived.Test.YtcnodelfblpdiaaOctLOct
namespace Go.Proofs.Ytcnodelfblpdiaa.Pure
set_option linter.unusedVariables false
set_option linter.unusedSimpArgs false
open Go.RowKit Go.Proofs.Ytcnodelfblpdiaa.POct Go.Proofs.YtcnodelfblpdiaaW.PrintWords Go.Proofs.YtcnodelfblpdiaaW.PrintLast Go.Proofs.YtcnodelfblpdiaaW.PrintMore Go.Proofs.Ytcnodelfblpdiaa.Ar

theorem OctetCuts : towropelaw01_OctetCuts.Pure := by
  intro l i n _ hl hw hi hn
  obtain ⟨i0, i1⟩ := bounds_i64 hi
  obtain ⟨n0, n1⟩ := bounds_i64 hn
  rw [Nat.mul_one] at hl
  refine ⟨0 + 1, ?_⟩
  unfold towropelaw01_OctetCuts.f
  rw [cut_f 0 l i n hl i0 i1 n0 n1, refcut_f 0 l i n hl i0 i1 n0 n1, cut_f 0 [1, 2, 3] 1 2 (by simp) (by omega) (by omega) (by omega) (by omega)]
  simp only [Option.bind_some]
  rw [if_pos trivial]
  unfold towropelaw01_code.f
  simp only [Option.bind_some, if_true]
  decide +kernel
end Go.Proofs.Ytcnodelfblpdiaa.Pure
