/- The acts of pool's laws (a slice of structs of five whole numbers), opened by their cells. No conditions beyond each lemma's own. -/
import Derived.Test.YtfmfpofbefgbgaaPPoolLx2
import Derived.Test.YtfmfpofbefgbgaaHActs
namespace Go.Proofs.Ytfmfpofbefgbgaa.PPoolL
open Go.Deep Go.ChangeShapes Go.WideShapes Go.ChangeAt Go.RowKit Go.Proofs.YtfmfpofbefgbgaaW.PrintWords Go.Proofs.YtfmfpofbefgbgaaW.PrintLast Go.Proofs.YtfmfpofbefgbgaaW.PrintMore
set_option linter.unusedVariables false
set_option linter.unusedSimpArgs false
section
variable {H : Type} {enc : TypeId × Value → H} {w : World} {base : Nat} {held : Bool}
set_option maxRecDepth 100000 in
theorem open_acts {r : Reach} {b0 : Nat} {v : Value} {d : DataW H} {p : List MemPlace} (hv : Value.okWide Try.prog w r b0 46 v) (h : DataW.Trod enc Try.prog w base (fun _ => true) held 46 v d p) : ∃ A n cap, v = .slice A n cap ∧ Acts w A n := by
  obtain ⟨a0, len0, cap0, rfl⟩ := okWide_slice Try.underlying46 hv
  obtain ⟨fuel, hf⟩ := h
  obtain ⟨A, n, cap, hc, hn, hel⟩ := HActs.open_structs (c := .slice a0 len0 cap0) Try.underlying46 Try.underlying51 (by kernel_rfl) (by kernel_rfl) ⟨fuel, _, hf⟩
  refine ⟨A, n, cap, hc, fun i hi => ?_⟩
  obtain ⟨ad, e, cs, hl, hcell, hf⟩ := hel i hi
  obtain ⟨f0, f1, f2, f3, f4, rfl⟩ : ∃ f0 f1 f2 f3 f4, cs = [f0, f1, f2, f3, f4] := by
    match cs, hl with
    | [f0, f1, f2, f3, f4], _ => exact ⟨f0, f1, f2, f3, f4, rfl⟩
  obtain ⟨x0, rfl, -⟩ := HRow.field_int Try.underlying3 (hf 0 _ _ rfl rfl)
  obtain ⟨x1, rfl, -⟩ := HRow.field_int Try.underlying3 (hf 1 _ _ rfl rfl)
  obtain ⟨x2, rfl, w2⟩ := HRow.field_int Try.underlying3 (hf 2 _ _ rfl rfl)
  obtain ⟨x3, rfl, -⟩ := HRow.field_int Try.underlying3 (hf 3 _ _ rfl rfl)
  obtain ⟨x4, rfl, -⟩ := HRow.field_int Try.underlying3 (hf 4 _ _ rfl rfl)
  have k0 := hcell 0 (by decide)
  have k1 := hcell 1 (by decide)
  have k2 := hcell 2 (by decide)
  have k3 := hcell 3 (by decide)
  have k4 := hcell 4 (by decide)
  refine ⟨ad, e, x0, x1, x2, x3, x4, ?_, ?_, ?_, ?_, ?_, w2⟩
  · simpa [Addr.add] using k0
  · simpa [Addr.add] using k1
  · simpa [Addr.add] using k2
  · simpa [Addr.add] using k3
  · simpa [Addr.add] using k4
end
end Go.Proofs.Ytfmfpofbefgbgaa.PPoolL
