-- The row of the law towropelaw09_SegSame: the kit's form, its struct opened by its fields (wip/tools/rowx.py).
import Derived.Test.YtilkbmjkjlbfmaaRows
import Derived.Test.YtilkbmjkjlbfmaaPSegSx3
import Derived.Test.YtilkbmjkjlbfmaaPureSegSame
import Derived.Test.YtilkbmjkjlbfmaaHRow
import Derived.Test.YtilkbmjkjlbfmaaWSized
import Derived.WalkKit
import Derived.ProofKit
import Derived.OpenShut
import Derived.ShutString
import Derived.ChangeOld
import Derived.Below
import Derived.SizedLaws
namespace Go.Proofs.Ytilkbmjkjlbfmaa.segSame
open Go.ChangeShapes Go.WideShapes Go.ChangeAt Go.RowKit Go.Proofs.Ytilkbmjkjlbfmaa.PSegS Go.Proofs.YtilkbmjkjlbfmaaW.PrintWords
open Go.ChangeMaps (open_string shut_string)
set_option linter.unusedVariables false
theorem own : ownKnob Try.prog.godebug = none := by kernel_rfl
theorem laidOut : laidOutB Try.prog = true := by kernel_rfl
set_option maxRecDepth 100000 in
theorem lifted (os : Os) (started : os.Started) (H : Type) (enc : TypeId × Value → H) :
    ReturnsInHanded {} Try.checked os 3 .any (Rows.segSameSpec.pre6 enc Try.prog Try.f3 Rows.segSameRow.domain false) (Rows.segSameSpec.post enc Try.prog Try.f3 false true false false) := by
  refine returnsInHanded_of_change_sized (C := Try.checked) own started (by kernel_rfl) Try.func3
    (ChangeSpec.witness6 (enc := enc) (C := Try.checked) false ⟨#[], #[.agg #[.int .u16 0, .int .u16 0, .int .u32 0, .int .u32 0, .int .u8 0, .int .u16 0, .int .i64 0, .int .i64 0, .slice none 0 0], .agg #[.int .u16 0, .int .u16 0, .int .u32 0, .int .u32 0, .int .u8 0, .int .u16 0, .int .i64 0, .int .i64 0, .slice none 0 0]], []⟩ 8 (by kernel_rfl) (by kernel_rfl) (by kernel_rfl) (by kernel_rfl)) ?_
  intro W base args ds gs before hval0 hW hcnd hsz0 _
  have hsz : (DataW.weightsEach Try.prog (Try.f3.params.toList ++ Rows.segSameSpec.plain.varTypes Try.prog) (ds ++ gs)).all (· ≤ reachBytes) = true := hsz0
  have hval : ∀ (j : Nat) t v, Try.f3.params[j]? = some t → args[j]? = some v → Value.okWide Try.prog W .any base t v := hval0
  have hW' := hW
  obtain ⟨p, q, hA0, hV, rfl, hfz, hnd⟩ := hW
  have hA : DataW.TrodAll enc Try.prog W 0 (fun _ => true) true Try.f3.params.toList args.toList ds p := hA0
  rw [Try.params3] at hA hval hsz
  obtain ⟨v0, vs0, d0, ds0, p0, q0, hargs, rfl, rfl, h0, r0⟩ := trodAll_cons hA
  obtain ⟨v1, vs1, d1, ds1, p1, q1, rfl, rfl, rfl, h1, r1⟩ := trodAll_cons r0
  obtain ⟨rfl, rfl, rfl⟩ := trodAll_nil r1
  obtain rfl : args = #[v0, v1] := by cases args; simp_all
  obtain ⟨rfl, rfl⟩ := trodVars_none hV
  have k0 := h0
  have lt0 : ∀ x ∈ p0, x.block < W.heap.size := by obtain ⟨m, hm⟩ := k0; exact DataW.trod_lt m _ _ _ hm
  obtain ⟨cs0, rfl, hs0, hf0⟩ := HRow.open_fields Try.underlying26 (by kernel_rfl) (by kernel_rfl) (hval 0 26 v0 rfl rfl) h0
  obtain ⟨f0_0, f0_1, f0_2, f0_3, f0_4, f0_5, f0_6, f0_7, f0_8, rfl⟩ := HRow.array9 hs0
  obtain ⟨a0_0, rfl, wa0_0⟩ := HRow.field_int Try.underlying22 (hf0 0 _ _ rfl rfl)
  obtain ⟨a0_1, rfl, wa0_1⟩ := HRow.field_int Try.underlying22 (hf0 1 _ _ rfl rfl)
  obtain ⟨a0_2, rfl, wa0_2⟩ := HRow.field_int Try.underlying23 (hf0 2 _ _ rfl rfl)
  obtain ⟨a0_3, rfl, wa0_3⟩ := HRow.field_int Try.underlying23 (hf0 3 _ _ rfl rfl)
  obtain ⟨a0_4, rfl, wa0_4⟩ := HRow.field_int Try.underlying5 (hf0 4 _ _ rfl rfl)
  obtain ⟨a0_5, rfl, wa0_5⟩ := HRow.field_int Try.underlying22 (hf0 5 _ _ rfl rfl)
  obtain ⟨a0_6, rfl, wa0_6⟩ := HRow.field_int Try.underlying3 (hf0 6 _ _ rfl rfl)
  obtain ⟨a0_7, rfl, wa0_7⟩ := HRow.field_int Try.underlying3 (hf0 7 _ _ rfl rfl)
  obtain ⟨A0_8, c0_8, l0_8, rfl, r_l0_8, c_l0_8, m_l0_8, w_l0_8⟩ := HRow.field_bytes Try.underlying24 Try.underlying5 (by kernel_rfl) (hf0 8 _ _ rfl rfl)
  have k1 := h1
  have lt1 : ∀ x ∈ p1, x.block < W.heap.size := by obtain ⟨m, hm⟩ := k1; exact DataW.trod_lt m _ _ _ hm
  obtain ⟨cs1, rfl, hs1, hf1⟩ := HRow.open_fields Try.underlying26 (by kernel_rfl) (by kernel_rfl) (hval 1 26 v1 rfl rfl) h1
  obtain ⟨f1_0, f1_1, f1_2, f1_3, f1_4, f1_5, f1_6, f1_7, f1_8, rfl⟩ := HRow.array9 hs1
  obtain ⟨a1_0, rfl, wa1_0⟩ := HRow.field_int Try.underlying22 (hf1 0 _ _ rfl rfl)
  obtain ⟨a1_1, rfl, wa1_1⟩ := HRow.field_int Try.underlying22 (hf1 1 _ _ rfl rfl)
  obtain ⟨a1_2, rfl, wa1_2⟩ := HRow.field_int Try.underlying23 (hf1 2 _ _ rfl rfl)
  obtain ⟨a1_3, rfl, wa1_3⟩ := HRow.field_int Try.underlying23 (hf1 3 _ _ rfl rfl)
  obtain ⟨a1_4, rfl, wa1_4⟩ := HRow.field_int Try.underlying5 (hf1 4 _ _ rfl rfl)
  obtain ⟨a1_5, rfl, wa1_5⟩ := HRow.field_int Try.underlying22 (hf1 5 _ _ rfl rfl)
  obtain ⟨a1_6, rfl, wa1_6⟩ := HRow.field_int Try.underlying3 (hf1 6 _ _ rfl rfl)
  obtain ⟨a1_7, rfl, wa1_7⟩ := HRow.field_int Try.underlying3 (hf1 7 _ _ rfl rfl)
  obtain ⟨A1_8, c1_8, l1_8, rfl, r_l1_8, c_l1_8, m_l1_8, w_l1_8⟩ := HRow.field_bytes Try.underlying24 Try.underlying5 (by kernel_rfl) (hf1 8 _ _ rfl rfl)
  clear hA0 hval0 hsz0 hsz
  obtain ⟨k, hP⟩ := Pure.SegSame a0_0 a0_1 a0_2 a0_3 a0_4 a0_5 a0_6 a0_7 l0_8 a1_0 a1_1 a1_2 a1_3 a1_4 a1_5 a1_6 a1_7 l1_8 wa0_0 wa0_1 wa0_2 wa0_3 wa0_4 wa0_5 wa0_6 wa0_7 m_l0_8 w_l0_8 wa1_0 wa1_1 wa1_2 wa1_3 wa1_4 wa1_5 wa1_6 wa1_7 m_l1_8 w_l1_8
  refine (towropelaw09_SegSame.calls k _ _ _ _ _ _ _ _ _ _ _ _ _ _ _ _ _ _ _ _ _ _ true W r_l0_8 c_l0_8 r_l1_8 c_l1_8 hP).mono fun e W' he_ => ?_
  have he : e = .returned (.bool true) := he_.1
  have bel : Below W.heap.size W W' := by exact he_.2
  subst he
  exact ⟨_, rfl, _, _, _, [], _, [], hW', trodAll_mk1 (shut_bool Try.underlying4 _), (trodAll_cons_mk (Below.trod laidOut (by kernel_rfl) (of_decide_eq_true (by kernel_rfl)) k0 bel lt0) (trodAll_cons_mk (Below.trod laidOut (by kernel_rfl) (of_decide_eq_true (by kernel_rfl)) k1 bel lt1) trodAll_mk0)), rfl, bel.frame _, fun h => by cases h⟩
theorem over : Rows.segSameRow.holds Try.pinned (OpenSpec.ofChange Rows.segSameSpec) :=
  OpenClaim.holds_of_wide 3 Try.f3 rfl rfl rfl rfl rfl rfl rfl ⟨rfl, rfl, rfl, rfl, rfl⟩ rfl rfl rfl rfl rfl (by kernel_rfl) Try.func3 (by kernel_rfl)
    (of_decide_eq_true (by kernel_rfl)) (by unfold Func.isWrapper; first | (rw [if_pos (by decide +kernel)]; kernel_rfl) | (rw [if_neg (by decide +kernel)]; exact ⟨rfl, rfl⟩))
    (fun os started H enc _ => lifted os started H enc)
theorem proved : Rows.SegSameSaid := over
#print axioms proved
end Go.Proofs.Ytilkbmjkjlbfmaa.segSame
namespace Go.Proofs.Ytilkbmjkjlbfmaa
/-- The row, under a short name, for the claim. -/
theorem segSame_holds : Rows.SegSameSaid := segSame.proved
end Go.Proofs.Ytilkbmjkjlbfmaa
