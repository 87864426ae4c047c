-- The row of the law towropelaw15_HoseNils: the kit's form, its struct opened by its fields (wip/tools/rowx.py).
import Derived.Test.YtfmfpofbefgbgaaRows
import Derived.Test.YtfmfpofbefgbgaaPHoseLx0
import Derived.Test.YtfmfpofbefgbgaaPureHoseNils
import Derived.Test.YtfmfpofbefgbgaaHRow
import Derived.Test.YtfmfpofbefgbgaaWSized
import Derived.WalkKit
import Derived.ProofKit
import Derived.OpenShut
import Derived.ShutString
import Derived.ChangeOld
import Derived.Below
import Derived.SizedLaws
namespace Go.Proofs.Ytfmfpofbefgbgaa.hoseNils
open Go.ChangeShapes Go.WideShapes Go.ChangeAt Go.RowKit Go.Proofs.Ytfmfpofbefgbgaa.PHoseL Go.Proofs.YtfmfpofbefgbgaaW.PrintWords
open Go.ChangeMaps (open_string shut_string)
set_option linter.unusedVariables false
theorem own : ownKnob Try.prog.godebug = none := by kernel_rfl
theorem laidOut : laidOutB Try.prog = true := by kernel_rfl
set_option maxRecDepth 100000 in
theorem lifted (os : Os) (started : os.Started) (H : Type) (enc : TypeId × Value → H) :
    ReturnsInHanded {} Try.checked os 5 .any (Rows.hoseNilsSpec.pre6 enc Try.prog Try.f5 Rows.hoseNilsRow.domain false) (Rows.hoseNilsSpec.post enc Try.prog Try.f5 false true false false) := by
  refine returnsInHanded_of_change_sized (C := Try.checked) own started (by kernel_rfl) Try.func5
    (ChangeSpec.witness6 (enc := enc) (C := Try.checked) false ⟨#[], #[.agg #[.int .i64 0, .int .i64 0, .int .i64 0, .slice none 0 0]], []⟩ 8 (by kernel_rfl) (by kernel_rfl) (by kernel_rfl) (by kernel_rfl)) ?_
  intro W base args ds gs before hval0 hW hcnd hsz0 _
  have hsz : (DataW.weightsEach Try.prog (Try.f5.params.toList ++ Rows.hoseNilsSpec.plain.varTypes Try.prog) (ds ++ gs)).all (· ≤ reachBytes) = true := hsz0
  have hval : ∀ (j : Nat) t v, Try.f5.params[j]? = some t → args[j]? = some v → Value.okWide Try.prog W .any base t v := hval0
  have hW' := hW
  obtain ⟨p, q, hA0, hV, rfl, hfz, hnd⟩ := hW
  have hA : DataW.TrodAll enc Try.prog W 0 (fun _ => true) true Try.f5.params.toList args.toList ds p := hA0
  rw [Try.params5] at hA hval hsz
  obtain ⟨v0, vs0, d0, ds0, p0, q0, hargs, rfl, rfl, h0, r0⟩ := trodAll_cons hA
  obtain ⟨rfl, rfl, rfl⟩ := trodAll_nil r0
  obtain rfl : args = #[v0] := by cases args; simp_all
  obtain ⟨rfl, rfl⟩ := trodVars_none hV
  have k0 := h0
  have lt0 : ∀ x ∈ p0, x.block < W.heap.size := by obtain ⟨m, hm⟩ := k0; exact DataW.trod_lt m _ _ _ hm
  obtain ⟨cs0, rfl, hs0, hf0⟩ := HRow.open_fields Try.underlying37 (by kernel_rfl) (by kernel_rfl) (hval 0 37 v0 rfl rfl) h0
  obtain ⟨f0_0, f0_1, f0_2, f0_3, rfl⟩ := HRow.array4 hs0
  obtain ⟨a0_0, rfl, wa0_0⟩ := HRow.field_int Try.underlying3 (hf0 0 _ _ rfl rfl)
  obtain ⟨a0_1, rfl, wa0_1⟩ := HRow.field_int Try.underlying3 (hf0 1 _ _ rfl rfl)
  obtain ⟨a0_2, rfl, wa0_2⟩ := HRow.field_int Try.underlying3 (hf0 2 _ _ rfl rfl)
  obtain ⟨A0_3, c0_3, l0_3, rfl, r_l0_3, c_l0_3, m_l0_3, w_l0_3⟩ := HRow.field_bytes Try.underlying23 Try.underlying5 (by kernel_rfl) (hf0 3 _ _ rfl rfl)
  clear hA0 hval0 hsz0 hsz
  obtain hP := Pure.HoseNils a0_0 a0_1 a0_2 l0_3 wa0_0 wa0_1 wa0_2 m_l0_3 w_l0_3
  refine (towropelaw15_HoseNils.calls _ _ _ _ _ _ true W hP).mono fun e W' he_ => ?_
  have he : e = .returned (.bool true) := he_.1
  have bel : Below W.heap.size W W' := by exact he_.2
  subst he
  exact ⟨_, rfl, _, _, _, [], _, [], hW', trodAll_mk1 (shut_bool Try.underlying4 _), (trodAll_cons_mk (Below.trod laidOut (by kernel_rfl) (of_decide_eq_true (by kernel_rfl)) k0 bel lt0) trodAll_mk0), rfl, bel.frame _, fun h => by cases h⟩
theorem over : Rows.hoseNilsRow.holds Try.pinned (OpenSpec.ofChange Rows.hoseNilsSpec) :=
  OpenClaim.holds_of_wide 5 Try.f5 rfl rfl rfl rfl rfl rfl rfl ⟨rfl, rfl, rfl, rfl, rfl⟩ rfl rfl rfl rfl rfl (by kernel_rfl) Try.func5 (by kernel_rfl)
    (of_decide_eq_true (by kernel_rfl)) (by unfold Func.isWrapper; first | (rw [if_pos (by decide +kernel)]; kernel_rfl) | (rw [if_neg (by decide +kernel)]; exact ⟨rfl, rfl⟩))
    (fun os started H enc _ => lifted os started H enc)
theorem proved : Rows.HoseNilsSaid := over
#print axioms proved
end Go.Proofs.Ytfmfpofbefgbgaa.hoseNils
namespace Go.Proofs.Ytfmfpofbefgbgaa
/-- The row, under a short name, for the claim. -/
theorem hoseNils_holds : Rows.HoseNilsSaid := hoseNils.proved
end Go.Proofs.Ytfmfpofbefgbgaa
