-- The row of the law towropelaw11_FragSplits: the kit's form, its struct opened by its fields (wip/tools/rowx.py).
import Derived.Test.YtfmfpofbefgbgaaRows
import Derived.Test.YtfmfpofbefgbgaaPFragLx2
import Derived.Test.YtfmfpofbefgbgaaPureFragSplits
import Derived.Test.YtfmfpofbefgbgaaHRow
import Derived.Test.YtfmfpofbefgbgaaWSized
import Derived.WalkKit
import Derived.ProofKit
import Derived.OpenShut
import Derived.ShutString
import Derived.ChangeOld
import Derived.Below
import Derived.SizedLaws
namespace Go.Proofs.Ytfmfpofbefgbgaa.fragSplits
open Go.ChangeShapes Go.WideShapes Go.ChangeAt Go.RowKit Go.Proofs.Ytfmfpofbefgbgaa.PFragL Go.Proofs.YtfmfpofbefgbgaaW.PrintWords
open Go.ChangeMaps (open_string shut_string)
set_option linter.unusedVariables false
theorem own : ownKnob Try.prog.godebug = none := by kernel_rfl
theorem laidOut : laidOutB Try.prog = true := by kernel_rfl
set_option maxRecDepth 100000 in
theorem lifted (os : Os) (started : os.Started) (H : Type) (enc : TypeId × Value → H) :
    ReturnsInHanded {} Try.checked os 9 .any (Rows.fragSplitsSpec.pre6 enc Try.prog Try.f9 Rows.fragSplitsRow.domain false) (Rows.fragSplitsSpec.post enc Try.prog Try.f9 false true false false) := by
  refine returnsInHanded_of_change_sized (C := Try.checked) own started (by kernel_rfl) Try.func9
    (ChangeSpec.witness6 (enc := enc) (C := Try.checked) false ⟨#[], #[.agg #[.int .u8 0, .int .u16 0, .bool false, .bool false, .int .i64 0, .int .u8 0, .int .u8 0, .int .u32 0, .int .u32 0, .slice none 0 0, .slice none 0 0], .int .i64 0], []⟩ 8 (by kernel_rfl) (by kernel_rfl) (by kernel_rfl) (by kernel_rfl)) ?_
  intro W base args ds gs before hval0 hW hcnd hsz0 _
  have hsz : (DataW.weightsEach Try.prog (Try.f9.params.toList ++ Rows.fragSplitsSpec.plain.varTypes Try.prog) (ds ++ gs)).all (· ≤ reachBytes) = true := hsz0
  have hval : ∀ (j : Nat) t v, Try.f9.params[j]? = some t → args[j]? = some v → Value.okWide Try.prog W .any base t v := hval0
  have hW' := hW
  obtain ⟨p, q, hA0, hV, rfl, hfz, hnd⟩ := hW
  have hA : DataW.TrodAll enc Try.prog W 0 (fun _ => true) true Try.f9.params.toList args.toList ds p := hA0
  rw [Try.params9] at hA hval hsz
  obtain ⟨v0, vs0, d0, ds0, p0, q0, hargs, rfl, rfl, h0, r0⟩ := trodAll_cons hA
  obtain ⟨v1, vs1, d1, ds1, p1, q1, rfl, rfl, rfl, h1, r1⟩ := trodAll_cons r0
  obtain ⟨rfl, rfl, rfl⟩ := trodAll_nil r1
  obtain rfl : args = #[v0, v1] := by cases args; simp_all
  obtain ⟨rfl, rfl⟩ := trodVars_none hV
  have k0 := h0
  have lt0 : ∀ x ∈ p0, x.block < W.heap.size := by obtain ⟨m, hm⟩ := k0; exact DataW.trod_lt m _ _ _ hm
  obtain ⟨cs0, rfl, hs0, hf0⟩ := HRow.open_fields Try.underlying68 (by kernel_rfl) (by kernel_rfl) (hval 0 68 v0 rfl rfl) h0
  obtain ⟨f0_0, f0_1, f0_2, f0_3, f0_4, f0_5, f0_6, f0_7, f0_8, f0_9, f0_10, rfl⟩ := HRow.array11 hs0
  obtain ⟨a0_0, rfl, wa0_0⟩ := HRow.field_int Try.underlying5 (hf0 0 _ _ rfl rfl)
  obtain ⟨a0_1, rfl, wa0_1⟩ := HRow.field_int Try.underlying22 (hf0 1 _ _ rfl rfl)
  obtain ⟨a0_2, rfl⟩ := HRow.field_bool Try.underlying4 (hf0 2 _ _ rfl rfl)
  obtain ⟨a0_3, rfl⟩ := HRow.field_bool Try.underlying4 (hf0 3 _ _ rfl rfl)
  obtain ⟨a0_4, rfl, wa0_4⟩ := HRow.field_int Try.underlying3 (hf0 4 _ _ rfl rfl)
  obtain ⟨a0_5, rfl, wa0_5⟩ := HRow.field_int Try.underlying5 (hf0 5 _ _ rfl rfl)
  obtain ⟨a0_6, rfl, wa0_6⟩ := HRow.field_int Try.underlying5 (hf0 6 _ _ rfl rfl)
  obtain ⟨a0_7, rfl, wa0_7⟩ := HRow.field_int Try.underlying66 (hf0 7 _ _ rfl rfl)
  obtain ⟨a0_8, rfl, wa0_8⟩ := HRow.field_int Try.underlying66 (hf0 8 _ _ rfl rfl)
  obtain ⟨A0_9, c0_9, l0_9, rfl, r_l0_9, c_l0_9, m_l0_9, w_l0_9⟩ := HRow.field_bytes Try.underlying23 Try.underlying5 (by kernel_rfl) (hf0 9 _ _ rfl rfl)
  obtain ⟨A0_10, c0_10, l0_10, rfl, r_l0_10, c_l0_10, m_l0_10, w_l0_10⟩ := HRow.field_bytes Try.underlying23 Try.underlying5 (by kernel_rfl) (hf0 10 _ _ rfl rfl)
  obtain ⟨a1, rfl, rfl, rfl, wa1⟩ := open_int Try.underlying3 (hval 1 3 v1 rfl rfl) h1
  clear hA0 hval0 hsz0 hsz
  obtain hP := Pure.FragSplits a0_0 a0_1 a0_2 a0_3 a0_4 a0_5 a0_6 a0_7 a0_8 l0_9 l0_10 a1 wa0_0 wa0_1 wa0_4 wa0_5 wa0_6 wa0_7 wa0_8 m_l0_9 w_l0_9 m_l0_10 w_l0_10 wa1
  refine (towropelaw11_FragSplits.calls _ _ _ _ _ _ _ _ _ _ _ _ _ _ _ _ true W r_l0_9 c_l0_9 r_l0_10 c_l0_10 hP).mono fun e W' he_ => ?_
  have he : e = .returned (.bool true) := he_.1
  have bel : Below W.heap.size W W' := by exact he_.2
  subst he
  exact ⟨_, rfl, _, _, _, [], _, [], hW', trodAll_mk1 (shut_bool Try.underlying4 _), (trodAll_cons_mk (Below.trod laidOut (by kernel_rfl) (of_decide_eq_true (by kernel_rfl)) k0 bel lt0) (trodAll_cons_mk (shut_int Try.underlying3 wa1) trodAll_mk0)), rfl, bel.frame _, fun h => by cases h⟩
theorem over : Rows.fragSplitsRow.holds Try.pinned (OpenSpec.ofChange Rows.fragSplitsSpec) :=
  OpenClaim.holds_of_wide 9 Try.f9 rfl rfl rfl rfl rfl rfl rfl ⟨rfl, rfl, rfl, rfl, rfl⟩ rfl rfl rfl rfl rfl (by kernel_rfl) Try.func9 (by kernel_rfl)
    (of_decide_eq_true (by kernel_rfl)) (by unfold Func.isWrapper; first | (rw [if_pos (by decide +kernel)]; kernel_rfl) | (rw [if_neg (by decide +kernel)]; exact ⟨rfl, rfl⟩))
    (fun os started H enc _ => lifted os started H enc)
theorem proved : Rows.FragSplitsSaid := over
#print axioms proved
end Go.Proofs.Ytfmfpofbefgbgaa.fragSplits
namespace Go.Proofs.Ytfmfpofbefgbgaa
/-- The row, under a short name, for the claim. -/
theorem fragSplits_holds : Rows.FragSplitsSaid := fragSplits.proved
end Go.Proofs.Ytfmfpofbefgbgaa
