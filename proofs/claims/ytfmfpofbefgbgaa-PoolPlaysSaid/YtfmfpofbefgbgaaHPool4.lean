/- pool: State of a group. Conditions: each theorem's own. -/
import Derived.Test.YtfmfpofbefgbgaaHPool3
namespace Go.Proofs.Ytfmfpofbefgbgaa.HPool
open Go.RowKit Go.Proofs.YtfmfpofbefgbgaaW.PrintWords Go.Proofs.YtfmfpofbefgbgaaW.PrintLast Go.Proofs.YtfmfpofbefgbgaaW.PrintMore Go.Proofs.Ytfmfpofbefgbgaa.HMap Go.Proofs.Ytfmfpofbefgbgaa.HSl Go.Maps Go.ChangeMaps Go.MapKept
set_option linter.unusedVariables false
set_option linter.unusedSimpArgs false
set_option linter.unusedSectionVars false
/-- What State answers. -/
def stF (o : Option Bf) : Int := if o.isSome then (if (o.getD (0, false)).2 then 2 else 1) else 0
set_option maxRecDepth 100000 in
set_option maxHeartbeats 16000000 in
theorem state_in {b0 pb : Nat} {w : World} {mp : Nat → Nat} {fv : Nat → Value} {s : Nat → Gp} (h : Pb b0 w pb mp fv s) (i : Nat) (hi : i < 16) (id : Int) (hid : (Lit.int .i64 id).wf = true) :
    Calls Try.prog 55 #[.pointer (some ⟨pb, 0, none⟩), .int .i64 i, .int .i64 id] w fun e w' => e = .returned (.int .i64 (stF ((s i).m id))) ∧ Below w.heap.size w w' := by
  have hl := h.look2 hi hid
  have hc := (h.cell hi).1
  have HC := Aside0.mk (of_in h i hi)
  have hpb := blk_lt h.blk.choose_spec.1
  unfold stF
  generalize ((s i).m id).getD (0, false) = zb at hl ⊢
  obtain ⟨sz, ou⟩ := zb
  simp only at hl ⊢
  generalize ((s i).m id).isSome = q at hl ⊢
  generalize mp i = mi at hl hc
  have HB := Aside0.mk (below_alloc (Below.refl w.heap.size w) (.cells #[.int .i64 sz, .bool ou] 126))
  have HN := Aside0.mk (blk_new w (.cells #[.int .i64 sz, .bool ou] 126))
  have HLC := Aside0.mk (And.intro hl hc)
  clear hid h hi hl hc hpb
  go_enter Try.func55, Try.ntmps55
  have hl := HLC.out.1
  have hc := HLC.out.2
  go_upto_region 5 with (go_at_call 65; refine HC.out.mono ?_; rintro e w1 ⟨rfl, rfl⟩)
  obtain ⟨g9, hg9⟩ : ∃ g9, g9 = w.heap.size := ⟨_, rfl⟩
  rw [← hg9] at HN ⊢
  clear hg9 hl hc HLC HC
  generalize w.alloc (.cells #[.int .i64 sz, .bool ou] 126) = w2 at HB HN ⊢
  have q0 := (blk_cell HN.out 0).trans rfl
  have q1 := (blk_cell HN.out 1).trans rfl
  cases q
  · go_wp2
    go_ret
    exact ⟨rfl, HB.out⟩
  · cases ou
    · go_wp2
      go_ret
      exact ⟨rfl, HB.out⟩
    · go_wp2
      go_ret
      exact ⟨rfl, HB.out⟩
end Go.Proofs.Ytfmfpofbefgbgaa.HPool
