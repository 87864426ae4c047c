/- For all bytes and places: the number that is read there, or the error, is told as by definition. No conditions. -/
import Derived.Test.YtcnodelfblpdiaaPOctx3
import Derived.Test.YtcnodelfblpdiaaPOctx6
import Derived.Test.YtcnodelfblpdiaaOctLOct
namespace Go.Proofs.Ytcnodelfblpdiaa.Pure
set_option linter.unusedVariables false
set_option linter.unusedSimpArgs false
open Go.RowKit Go.Proofs.Ytcnodelfblpdiaa.POct Go.Proofs.YtcnodelfblpdiaaW.PrintWords Go.Proofs.YtcnodelfblpdiaaW.PrintLast Go.Proofs.YtcnodelfblpdiaaW.PrintMore Go.Proofs.Ytcnodelfblpdiaa.Ar

theorem OctetGets : towropelaw01_OctetGets.Pure := by
  intro l i _ hl hw hi
  obtain ⟨i0, i1⟩ := bounds_i64 hi
  rw [Nat.mul_one] at hl
  have hB := Bytes.of_wf hw
  refine ⟨6, ?_⟩
  unfold towropelaw01_OctetGets.f
  rw [get16_f 1 l i hB hl i0 i1, refget_f 0 l i 2 hB hl i0 i1 (by omega) (by omega), get32_f 1 l i hB hl i0 i1, refget_f 0 l i 4 hB hl i0 i1 (by omega) (by omega),
    get16_f 1 [1, 2] 0 (by intro x hx; simp at hx; omega) (by simp) (by omega) (by omega)]
  have h4 := getS_bd l hB i 4
  have h5 := pow_le256 (viewS_len_n l i 4 (by omega))
  have h6 : (256 : Int) ^ (4 : Int).toNat = 4294967296 := by decide
  unfold towropelaw01_code.f
  simp only [Option.bind_some, if_true]
  rw [w64 (by omega) (by omega), if_pos rfl]
  decide +kernel
end Go.Proofs.Ytcnodelfblpdiaa.Pure
