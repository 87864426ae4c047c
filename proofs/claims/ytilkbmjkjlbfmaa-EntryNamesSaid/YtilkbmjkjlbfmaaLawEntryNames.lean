-- The row of the law towropelaw26_EntryNames: the kit's form, its struct opened by its fields (wip/tools/rowx.py).
import Derived.Test.YtilkbmjkjlbfmaaRows
import Derived.Test.YtilkbmjkjlbfmaaPEntx5
import Derived.Test.YtilkbmjkjlbfmaaPureEntryNames
import Derived.Test.YtilkbmjkjlbfmaaHRow
import Derived.Test.YtilkbmjkjlbfmaaWSized
import Derived.WalkKit
import Derived.ProofKit
import Derived.OpenShut
import Derived.ShutString
import Derived.ChangeOld
import Derived.Below
import Derived.SizedLaws
namespace Go.Proofs.Ytilkbmjkjlbfmaa.entryNames
open Go.ChangeShapes Go.WideShapes Go.ChangeAt Go.RowKit Go.Proofs.Ytilkbmjkjlbfmaa.PEnt Go.Proofs.YtilkbmjkjlbfmaaW.PrintWords
open Go.ChangeMaps (open_string shut_string)
set_option linter.unusedVariables false
theorem own : ownKnob Try.prog.godebug = none := by kernel_rfl
theorem laidOut : laidOutB Try.prog = true := by kernel_rfl
set_option maxRecDepth 100000 in
theorem lifted (os : Os) (started : os.Started) (H : Type) (enc : TypeId × Value → H) :
    ReturnsInHanded {} Try.checked os 6 .any (Rows.entryNamesSpec.pre6 enc Try.prog Try.f6 Rows.entryNamesRow.domain false) (Rows.entryNamesSpec.post enc Try.prog Try.f6 false true false false) := by
  refine returnsInHanded_of_change_sized (C := Try.checked) own started (by kernel_rfl) Try.func6
    (ChangeSpec.witness6 (enc := enc) (C := Try.checked) false ⟨#[], #[.int .i64 0, .agg #[.int .u8 0, .int .u8 0, .int .i64 0, .int .u32 0, .int .u16 0, .int .i64 0, .int .i64 0, .int .i64 0, .int .u64 0, .int .u64 0, .slice none 0 0], .agg #[.int .u8 0, .int .u8 0, .int .i64 0, .int .u32 0, .int .u16 0, .int .i64 0, .int .i64 0, .int .i64 0, .int .u64 0, .int .u64 0, .slice none 0 0], .agg #[.int .u64 0, .int .i64 0, .int .u8 0, .int .i64 0, .slice none 0 0], .agg #[.int .u64 0, .int .i64 0, .int .u8 0, .int .i64 0, .slice none 0 0]], []⟩ 8 (by kernel_rfl) (by kernel_rfl) (by kernel_rfl) (by kernel_rfl)) ?_
  intro W base args ds gs before hval0 hW hcnd hsz0 _
  have hsz : (DataW.weightsEach Try.prog (Try.f6.params.toList ++ Rows.entryNamesSpec.plain.varTypes Try.prog) (ds ++ gs)).all (· ≤ reachBytes) = true := hsz0
  have hval : ∀ (j : Nat) t v, Try.f6.params[j]? = some t → args[j]? = some v → Value.okWide Try.prog W .any base t v := hval0
  have hW' := hW
  obtain ⟨p, q, hA0, hV, rfl, hfz, hnd⟩ := hW
  have hA : DataW.TrodAll enc Try.prog W 0 (fun _ => true) true Try.f6.params.toList args.toList ds p := hA0
  rw [Try.params6] at hA hval hsz
  obtain ⟨v0, vs0, d0, ds0, p0, q0, hargs, rfl, rfl, h0, r0⟩ := trodAll_cons hA
  obtain ⟨v1, vs1, d1, ds1, p1, q1, rfl, rfl, rfl, h1, r1⟩ := trodAll_cons r0
  obtain ⟨v2, vs2, d2, ds2, p2, q2, rfl, rfl, rfl, h2, r2⟩ := trodAll_cons r1
  obtain ⟨v3, vs3, d3, ds3, p3, q3, rfl, rfl, rfl, h3, r3⟩ := trodAll_cons r2
  obtain ⟨v4, vs4, d4, ds4, p4, q4, rfl, rfl, rfl, h4, r4⟩ := trodAll_cons r3
  obtain ⟨rfl, rfl, rfl⟩ := trodAll_nil r4
  obtain rfl : args = #[v0, v1, v2, v3, v4] := by cases args; simp_all
  obtain ⟨rfl, rfl⟩ := trodVars_none hV
  obtain ⟨a0, rfl, rfl, rfl, wa0⟩ := open_int Try.underlying3 (hval 0 3 v0 rfl rfl) h0
  have k1 := h1
  have lt1 : ∀ x ∈ p1, x.block < W.heap.size := by obtain ⟨m, hm⟩ := k1; exact DataW.trod_lt m _ _ _ hm
  obtain ⟨cs1, rfl, hs1, hf1⟩ := HRow.open_fields Try.underlying50 (by kernel_rfl) (by kernel_rfl) (hval 1 50 v1 rfl rfl) h1
  obtain ⟨f1_0, f1_1, f1_2, f1_3, f1_4, f1_5, f1_6, f1_7, f1_8, f1_9, f1_10, rfl⟩ := HRow.array11 hs1
  obtain ⟨a1_0, rfl, wa1_0⟩ := HRow.field_int Try.underlying5 (hf1 0 _ _ rfl rfl)
  obtain ⟨a1_1, rfl, wa1_1⟩ := HRow.field_int Try.underlying5 (hf1 1 _ _ rfl rfl)
  obtain ⟨a1_2, rfl, wa1_2⟩ := HRow.field_int Try.underlying3 (hf1 2 _ _ rfl rfl)
  obtain ⟨a1_3, rfl, wa1_3⟩ := HRow.field_int Try.underlying47 (hf1 3 _ _ rfl rfl)
  obtain ⟨a1_4, rfl, wa1_4⟩ := HRow.field_int Try.underlying22 (hf1 4 _ _ rfl rfl)
  obtain ⟨a1_5, rfl, wa1_5⟩ := HRow.field_int Try.underlying3 (hf1 5 _ _ rfl rfl)
  obtain ⟨a1_6, rfl, wa1_6⟩ := HRow.field_int Try.underlying3 (hf1 6 _ _ rfl rfl)
  obtain ⟨a1_7, rfl, wa1_7⟩ := HRow.field_int Try.underlying3 (hf1 7 _ _ rfl rfl)
  obtain ⟨a1_8, rfl, wa1_8⟩ := HRow.field_int Try.underlying48 (hf1 8 _ _ rfl rfl)
  obtain ⟨a1_9, rfl, wa1_9⟩ := HRow.field_int Try.underlying48 (hf1 9 _ _ rfl rfl)
  obtain ⟨A1_10, c1_10, l1_10, rfl, r_l1_10, c_l1_10, m_l1_10, w_l1_10⟩ := HRow.field_bytes Try.underlying24 Try.underlying5 (by kernel_rfl) (hf1 10 _ _ rfl rfl)
  have k2 := h2
  have lt2 : ∀ x ∈ p2, x.block < W.heap.size := by obtain ⟨m, hm⟩ := k2; exact DataW.trod_lt m _ _ _ hm
  obtain ⟨cs2, rfl, hs2, hf2⟩ := HRow.open_fields Try.underlying50 (by kernel_rfl) (by kernel_rfl) (hval 2 50 v2 rfl rfl) h2
  obtain ⟨f2_0, f2_1, f2_2, f2_3, f2_4, f2_5, f2_6, f2_7, f2_8, f2_9, f2_10, rfl⟩ := HRow.array11 hs2
  obtain ⟨a2_0, rfl, wa2_0⟩ := HRow.field_int Try.underlying5 (hf2 0 _ _ rfl rfl)
  obtain ⟨a2_1, rfl, wa2_1⟩ := HRow.field_int Try.underlying5 (hf2 1 _ _ rfl rfl)
  obtain ⟨a2_2, rfl, wa2_2⟩ := HRow.field_int Try.underlying3 (hf2 2 _ _ rfl rfl)
  obtain ⟨a2_3, rfl, wa2_3⟩ := HRow.field_int Try.underlying47 (hf2 3 _ _ rfl rfl)
  obtain ⟨a2_4, rfl, wa2_4⟩ := HRow.field_int Try.underlying22 (hf2 4 _ _ rfl rfl)
  obtain ⟨a2_5, rfl, wa2_5⟩ := HRow.field_int Try.underlying3 (hf2 5 _ _ rfl rfl)
  obtain ⟨a2_6, rfl, wa2_6⟩ := HRow.field_int Try.underlying3 (hf2 6 _ _ rfl rfl)
  obtain ⟨a2_7, rfl, wa2_7⟩ := HRow.field_int Try.underlying3 (hf2 7 _ _ rfl rfl)
  obtain ⟨a2_8, rfl, wa2_8⟩ := HRow.field_int Try.underlying48 (hf2 8 _ _ rfl rfl)
  obtain ⟨a2_9, rfl, wa2_9⟩ := HRow.field_int Try.underlying48 (hf2 9 _ _ rfl rfl)
  obtain ⟨A2_10, c2_10, l2_10, rfl, r_l2_10, c_l2_10, m_l2_10, w_l2_10⟩ := HRow.field_bytes Try.underlying24 Try.underlying5 (by kernel_rfl) (hf2 10 _ _ rfl rfl)
  have k3 := h3
  have lt3 : ∀ x ∈ p3, x.block < W.heap.size := by obtain ⟨m, hm⟩ := k3; exact DataW.trod_lt m _ _ _ hm
  obtain ⟨cs3, rfl, hs3, hf3⟩ := HRow.open_fields Try.underlying52 (by kernel_rfl) (by kernel_rfl) (hval 3 52 v3 rfl rfl) h3
  obtain ⟨f3_0, f3_1, f3_2, f3_3, f3_4, rfl⟩ := HRow.array5 hs3
  obtain ⟨a3_0, rfl, wa3_0⟩ := HRow.field_int Try.underlying48 (hf3 0 _ _ rfl rfl)
  obtain ⟨a3_1, rfl, wa3_1⟩ := HRow.field_int Try.underlying3 (hf3 1 _ _ rfl rfl)
  obtain ⟨a3_2, rfl, wa3_2⟩ := HRow.field_int Try.underlying5 (hf3 2 _ _ rfl rfl)
  obtain ⟨a3_3, rfl, wa3_3⟩ := HRow.field_int Try.underlying3 (hf3 3 _ _ rfl rfl)
  obtain ⟨A3_4, c3_4, l3_4, rfl, r_l3_4, c_l3_4, m_l3_4, w_l3_4⟩ := HRow.field_bytes Try.underlying24 Try.underlying5 (by kernel_rfl) (hf3 4 _ _ rfl rfl)
  have k4 := h4
  have lt4 : ∀ x ∈ p4, x.block < W.heap.size := by obtain ⟨m, hm⟩ := k4; exact DataW.trod_lt m _ _ _ hm
  obtain ⟨cs4, rfl, hs4, hf4⟩ := HRow.open_fields Try.underlying52 (by kernel_rfl) (by kernel_rfl) (hval 4 52 v4 rfl rfl) h4
  obtain ⟨f4_0, f4_1, f4_2, f4_3, f4_4, rfl⟩ := HRow.array5 hs4
  obtain ⟨a4_0, rfl, wa4_0⟩ := HRow.field_int Try.underlying48 (hf4 0 _ _ rfl rfl)
  obtain ⟨a4_1, rfl, wa4_1⟩ := HRow.field_int Try.underlying3 (hf4 1 _ _ rfl rfl)
  obtain ⟨a4_2, rfl, wa4_2⟩ := HRow.field_int Try.underlying5 (hf4 2 _ _ rfl rfl)
  obtain ⟨a4_3, rfl, wa4_3⟩ := HRow.field_int Try.underlying3 (hf4 3 _ _ rfl rfl)
  obtain ⟨A4_4, c4_4, l4_4, rfl, r_l4_4, c_l4_4, m_l4_4, w_l4_4⟩ := HRow.field_bytes Try.underlying24 Try.underlying5 (by kernel_rfl) (hf4 4 _ _ rfl rfl)
  clear hA0 hval0 hsz0 hsz
  obtain ⟨k, hP⟩ := Pure.EntryNames a0 a1_0 a1_1 a1_2 a1_3 a1_4 a1_5 a1_6 a1_7 a1_8 a1_9 l1_10 a2_0 a2_1 a2_2 a2_3 a2_4 a2_5 a2_6 a2_7 a2_8 a2_9 l2_10 a3_0 a3_1 a3_2 a3_3 l3_4 a4_0 a4_1 a4_2 a4_3 l4_4 wa0 wa1_0 wa1_1 wa1_2 wa1_3 wa1_4 wa1_5 wa1_6 wa1_7 wa1_8 wa1_9 m_l1_10 w_l1_10 wa2_0 wa2_1 wa2_2 wa2_3 wa2_4 wa2_5 wa2_6 wa2_7 wa2_8 wa2_9 m_l2_10 w_l2_10 wa3_0 wa3_1 wa3_2 wa3_3 m_l3_4 w_l3_4 wa4_0 wa4_1 wa4_2 wa4_3 m_l4_4 w_l4_4
  refine (towropelaw26_EntryNames.calls k _ _ _ _ _ _ _ _ _ _ _ _ _ _ _ _ _ _ _ _ _ _ _ _ _ _ _ _ _ _ _ _ _ _ _ _ _ _ _ _ _ true W r_l1_10 c_l1_10 r_l2_10 c_l2_10 r_l3_4 c_l3_4 r_l4_4 c_l4_4 hP).mono fun e W' he_ => ?_
  have he : e = .returned (.bool true) := he_.1
  have bel : Below W.heap.size W W' := by exact he_.2
  subst he
  exact ⟨_, rfl, _, _, _, [], _, [], hW', trodAll_mk1 (shut_bool Try.underlying4 _), (trodAll_cons_mk (shut_int Try.underlying3 wa0) (trodAll_cons_mk (Below.trod laidOut (by kernel_rfl) (of_decide_eq_true (by kernel_rfl)) k1 bel lt1) (trodAll_cons_mk (Below.trod laidOut (by kernel_rfl) (of_decide_eq_true (by kernel_rfl)) k2 bel lt2) (trodAll_cons_mk (Below.trod laidOut (by kernel_rfl) (of_decide_eq_true (by kernel_rfl)) k3 bel lt3) (trodAll_cons_mk (Below.trod laidOut (by kernel_rfl) (of_decide_eq_true (by kernel_rfl)) k4 bel lt4) trodAll_mk0))))), rfl, bel.frame _, fun h => by cases h⟩
theorem over : Rows.entryNamesRow.holds Try.pinned (OpenSpec.ofChange Rows.entryNamesSpec) :=
  OpenClaim.holds_of_wide 6 Try.f6 rfl rfl rfl rfl rfl rfl rfl ⟨rfl, rfl, rfl, rfl, rfl⟩ rfl rfl rfl rfl rfl (by kernel_rfl) Try.func6 (by kernel_rfl)
    (of_decide_eq_true (by kernel_rfl)) (by unfold Func.isWrapper; first | (rw [if_pos (by decide +kernel)]; kernel_rfl) | (rw [if_neg (by decide +kernel)]; exact ⟨rfl, rfl⟩))
    (fun os started H enc _ => lifted os started H enc)
theorem proved : Rows.EntryNamesSaid := over
#print axioms proved
end Go.Proofs.Ytilkbmjkjlbfmaa.entryNames
namespace Go.Proofs.Ytilkbmjkjlbfmaa
/-- The row, under a short name, for the claim. -/
theorem entryNames_holds : Rows.EntryNamesSaid := entryNames.proved
end Go.Proofs.Ytilkbmjkjlbfmaa
