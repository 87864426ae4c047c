/- OctetOwn: all bytes, every whole number. No conditions. -/
import Derived.Test.YtcnodelfblpdiaaQOctetOwn
namespace Go.Proofs.Ytcnodelfblpdiaa.Pure
set_option linter.unusedVariables false
set_option linter.unusedSimpArgs false
open Go.RowKit Go.Proofs.Ytcnodelfblpdiaa.POctL
theorem OctetOwn : OctetOwnSt := by
  intro l0 a1 _ hb hl h1
  unfold towropelaw01_OctetOwn.f
  rw [if_pos hl]
end Go.Proofs.Ytcnodelfblpdiaa.Pure
