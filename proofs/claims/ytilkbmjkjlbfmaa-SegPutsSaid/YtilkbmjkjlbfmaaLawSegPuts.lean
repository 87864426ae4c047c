-- The row of the law towropelaw09_SegPuts: the kit's form, its struct opened by its fields (wip/tools/rowx.py).
import Derived.Test.YtilkbmjkjlbfmaaRows
import Derived.Test.YtilkbmjkjlbfmaaPSegPx10
import Derived.Test.YtilkbmjkjlbfmaaPureSegPuts
import Derived.Test.YtilkbmjkjlbfmaaHRow
import Derived.Test.YtilkbmjkjlbfmaaWSized
import Derived.WalkKit
import Derived.ProofKit
import Derived.OpenShut
import Derived.ShutString
import Derived.ChangeOld
import Derived.Below
import Derived.SizedLaws
namespace Go.Proofs.Ytilkbmjkjlbfmaa.segPuts
open Go.ChangeShapes Go.WideShapes Go.ChangeAt Go.RowKit Go.Proofs.Ytilkbmjkjlbfmaa.PSegP Go.Proofs.YtilkbmjkjlbfmaaW.PrintWords
open Go.ChangeMaps (open_string shut_string)
set_option linter.unusedVariables false
theorem own : ownKnob Try.prog.godebug = none := by kernel_rfl
theorem laidOut : laidOutB Try.prog = true := by kernel_rfl
set_option maxRecDepth 100000 in
theorem lifted (os : Os) (started : os.Started) (H : Type) (enc : TypeId × Value → H) :
    ReturnsInHanded {} Try.checked os 13 .any (Rows.segPutsSpec.pre6 enc Try.prog Try.f13 Rows.segPutsRow.domain false) (Rows.segPutsSpec.post enc Try.prog Try.f13 false true false false) := by
  refine returnsInHanded_of_change_sized (C := Try.checked) own started (by kernel_rfl) Try.func13
    (ChangeSpec.witness6 (enc := enc) (C := Try.checked) false ⟨#[], #[.int .u32 0, .int .u32 0, .agg #[.int .u16 0, .int .u16 0, .int .u32 0, .int .u32 0, .int .u8 0, .int .u16 0, .int .i64 0, .int .i64 0, .slice none 0 0]], []⟩ 8 (by kernel_rfl) (by kernel_rfl) (by kernel_rfl) (by kernel_rfl)) ?_
  intro W base args ds gs before hval0 hW hcnd hsz0 _
  have hsz : (DataW.weightsEach Try.prog (Try.f13.params.toList ++ Rows.segPutsSpec.plain.varTypes Try.prog) (ds ++ gs)).all (· ≤ reachBytes) = true := hsz0
  have hval : ∀ (j : Nat) t v, Try.f13.params[j]? = some t → args[j]? = some v → Value.okWide Try.prog W .any base t v := hval0
  have hW' := hW
  obtain ⟨p, q, hA0, hV, rfl, hfz, hnd⟩ := hW
  have hA : DataW.TrodAll enc Try.prog W 0 (fun _ => true) true Try.f13.params.toList args.toList ds p := hA0
  rw [Try.params13] at hA hval hsz
  obtain ⟨v0, vs0, d0, ds0, p0, q0, hargs, rfl, rfl, h0, r0⟩ := trodAll_cons hA
  obtain ⟨v1, vs1, d1, ds1, p1, q1, rfl, rfl, rfl, h1, r1⟩ := trodAll_cons r0
  obtain ⟨v2, vs2, d2, ds2, p2, q2, rfl, rfl, rfl, h2, r2⟩ := trodAll_cons r1
  obtain ⟨rfl, rfl, rfl⟩ := trodAll_nil r2
  obtain rfl : args = #[v0, v1, v2] := by cases args; simp_all
  obtain ⟨rfl, rfl⟩ := trodVars_none hV
  obtain ⟨a0, rfl, rfl, rfl, wa0⟩ := open_int Try.underlying23 (hval 0 23 v0 rfl rfl) h0
  obtain ⟨a1, rfl, rfl, rfl, wa1⟩ := open_int Try.underlying23 (hval 1 23 v1 rfl rfl) h1
  have k2 := h2
  have lt2 : ∀ x ∈ p2, x.block < W.heap.size := by obtain ⟨m, hm⟩ := k2; exact DataW.trod_lt m _ _ _ hm
  obtain ⟨cs2, rfl, hs2, hf2⟩ := HRow.open_fields Try.underlying26 (by kernel_rfl) (by kernel_rfl) (hval 2 26 v2 rfl rfl) h2
  obtain ⟨f2_0, f2_1, f2_2, f2_3, f2_4, f2_5, f2_6, f2_7, f2_8, rfl⟩ := HRow.array9 hs2
  obtain ⟨a2_0, rfl, wa2_0⟩ := HRow.field_int Try.underlying22 (hf2 0 _ _ rfl rfl)
  obtain ⟨a2_1, rfl, wa2_1⟩ := HRow.field_int Try.underlying22 (hf2 1 _ _ rfl rfl)
  obtain ⟨a2_2, rfl, wa2_2⟩ := HRow.field_int Try.underlying23 (hf2 2 _ _ rfl rfl)
  obtain ⟨a2_3, rfl, wa2_3⟩ := HRow.field_int Try.underlying23 (hf2 3 _ _ rfl rfl)
  obtain ⟨a2_4, rfl, wa2_4⟩ := HRow.field_int Try.underlying5 (hf2 4 _ _ rfl rfl)
  obtain ⟨a2_5, rfl, wa2_5⟩ := HRow.field_int Try.underlying22 (hf2 5 _ _ rfl rfl)
  obtain ⟨a2_6, rfl, wa2_6⟩ := HRow.field_int Try.underlying3 (hf2 6 _ _ rfl rfl)
  obtain ⟨a2_7, rfl, wa2_7⟩ := HRow.field_int Try.underlying3 (hf2 7 _ _ rfl rfl)
  obtain ⟨A2_8, c2_8, l2_8, rfl, r_l2_8, c_l2_8, m_l2_8, w_l2_8⟩ := HRow.field_bytes Try.underlying24 Try.underlying5 (by kernel_rfl) (hf2 8 _ _ rfl rfl)
  clear hA0 hval0 hsz0 hsz
  obtain ⟨k, hP⟩ := Pure.SegPuts a0 a1 a2_0 a2_1 a2_2 a2_3 a2_4 a2_5 a2_6 a2_7 l2_8 wa0 wa1 wa2_0 wa2_1 wa2_2 wa2_3 wa2_4 wa2_5 wa2_6 wa2_7 m_l2_8 w_l2_8
  refine (towropelaw09_SegPuts.calls k _ _ _ _ _ _ _ _ _ _ _ _ _ true rfl W r_l2_8 c_l2_8 hP).mono fun e W' he_ => ?_
  have he : e = .returned (.bool true) := he_.1
  have bel : Below W.heap.size W W' := by exact he_.2
  subst he
  exact ⟨_, rfl, _, _, _, [], _, [], hW', trodAll_mk1 (shut_bool Try.underlying4 _), (trodAll_cons_mk (shut_int Try.underlying23 wa0) (trodAll_cons_mk (shut_int Try.underlying23 wa1) (trodAll_cons_mk (Below.trod laidOut (by kernel_rfl) (of_decide_eq_true (by kernel_rfl)) k2 bel lt2) trodAll_mk0))), rfl, bel.frame _, fun h => by cases h⟩
theorem over : Rows.segPutsRow.holds Try.pinned (OpenSpec.ofChange Rows.segPutsSpec) :=
  OpenClaim.holds_of_wide 13 Try.f13 rfl rfl rfl rfl rfl rfl rfl ⟨rfl, rfl, rfl, rfl, rfl⟩ rfl rfl rfl rfl rfl (by kernel_rfl) Try.func13 (by kernel_rfl)
    (of_decide_eq_true (by kernel_rfl)) (by unfold Func.isWrapper; first | (rw [if_pos (by decide +kernel)]; kernel_rfl) | (rw [if_neg (by decide +kernel)]; exact ⟨rfl, rfl⟩))
    (fun os started H enc _ => lifted os started H enc)
theorem proved : Rows.SegPutsSaid := over
#print axioms proved
end Go.Proofs.Ytilkbmjkjlbfmaa.segPuts
namespace Go.Proofs.Ytilkbmjkjlbfmaa
/-- The row, under a short name, for the claim. -/
theorem segPuts_holds : Rows.SegPutsSaid := segPuts.proved
end Go.Proofs.Ytilkbmjkjlbfmaa
