/- pool: Take where none is free. Conditions: each theorem's own. -/
import Derived.Test.YtfmfpofbefgbgaaHPool6
namespace Go.Proofs.Ytfmfpofbefgbgaa.HPool
open Go.RowKit Go.Proofs.YtfmfpofbefgbgaaW.PrintWords Go.Proofs.YtfmfpofbefgbgaaW.PrintLast Go.Proofs.YtfmfpofbefgbgaaW.PrintMore Go.Proofs.Ytfmfpofbefgbgaa.HMap Go.Proofs.Ytfmfpofbefgbgaa.HSl Go.Maps Go.ChangeMaps Go.MapKept
set_option linter.unusedVariables false
set_option linter.unusedSimpArgs false
set_option linter.unusedSectionVars false
set_option maxRecDepth 100000 in
set_option maxHeartbeats 16000000 in
theorem take_none {b0 pb : Nat} {w : World} {mp : Nat → Nat} {fv : Nat → Value} {s : Nat → Gp} (h : Pb b0 w pb mp fv s) (i : Nat) (hi : i < 16) (hn : (s i).fr = []) :
    Calls Try.prog 31 #[.pointer (some ⟨pb, 0, none⟩), .int .i64 i] w fun e w' => e = .returned (.tuple #[.int .i64 0, .int .i64 0, .int .i64 6]) ∧ w = w' := by
  have HC := Aside0.mk (of_in h i hi)
  have hF := h.F i hi
  rw [hn] at hF
  obtain ⟨A, c, hv, -, -⟩ := hF.shape
  have hz := (h.cell hi).2.1
  rw [hv] at hz
  have hpb := blk_lt h.blk.choose_spec.1
  simp only [List.length_nil] at hz
  clear h hi hn hv hF
  go_enter Try.func31, Try.ntmps31
  go_wp2_with (go_at_call 65; refine HC.out.mono ?_; rintro e w1 ⟨rfl, rfl⟩)
  go_ret3
  exact ⟨rfl, rfl⟩
end Go.Proofs.Ytfmfpofbefgbgaa.HPool
