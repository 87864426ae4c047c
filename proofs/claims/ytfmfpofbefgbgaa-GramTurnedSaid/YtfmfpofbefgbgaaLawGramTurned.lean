-- The row of the law towropelaw08_GramTurned: the kit's form, its struct opened by its fields (wip/tools/rowx.py).
import Derived.Test.YtfmfpofbefgbgaaRows
import Derived.Test.YtfmfpofbefgbgaaPGramTx4
import Derived.Test.YtfmfpofbefgbgaaPureGramTurned
import Derived.Test.YtfmfpofbefgbgaaHRow
import Derived.Test.YtfmfpofbefgbgaaWSized
import Derived.WalkKit
import Derived.ProofKit
import Derived.OpenShut
import Derived.ShutString
import Derived.ChangeOld
import Derived.Below
import Derived.SizedLaws
namespace Go.Proofs.Ytfmfpofbefgbgaa.gramTurned
open Go.ChangeShapes Go.WideShapes Go.ChangeAt Go.RowKit Go.Proofs.Ytfmfpofbefgbgaa.PGramT Go.Proofs.YtfmfpofbefgbgaaW.PrintWords
open Go.ChangeMaps (open_string shut_string)
set_option linter.unusedVariables false
theorem own : ownKnob Try.prog.godebug = none := by kernel_rfl
theorem laidOut : laidOutB Try.prog = true := by kernel_rfl
set_option maxRecDepth 100000 in
theorem lifted (os : Os) (started : os.Started) (H : Type) (enc : TypeId × Value → H) :
    ReturnsInHanded {} Try.checked os 13 .any (Rows.gramTurnedSpec.pre6 enc Try.prog Try.f13 Rows.gramTurnedRow.domain false) (Rows.gramTurnedSpec.post enc Try.prog Try.f13 false true false false) := by
  refine returnsInHanded_of_change_sized (C := Try.checked) own started (by kernel_rfl) Try.func13
    (ChangeSpec.witness6 (enc := enc) (C := Try.checked) false ⟨#[], #[.int .u32 0, .int .u32 0, .agg #[.int .u16 0, .int .u16 0, .slice none 0 0], .int .u16 0, .int .u16 0], []⟩ 8 (by kernel_rfl) (by kernel_rfl) (by kernel_rfl) (by kernel_rfl)) ?_
  intro W base args ds gs before hval0 hW hcnd hsz0 _
  have hsz : (DataW.weightsEach Try.prog (Try.f13.params.toList ++ Rows.gramTurnedSpec.plain.varTypes Try.prog) (ds ++ gs)).all (· ≤ reachBytes) = true := hsz0
  have hval : ∀ (j : Nat) t v, Try.f13.params[j]? = some t → args[j]? = some v → Value.okWide Try.prog W .any base t v := hval0
  have hW' := hW
  obtain ⟨p, q, hA0, hV, rfl, hfz, hnd⟩ := hW
  have hA : DataW.TrodAll enc Try.prog W 0 (fun _ => true) true Try.f13.params.toList args.toList ds p := hA0
  rw [Try.params13] at hA hval hsz
  obtain ⟨v0, vs0, d0, ds0, p0, q0, hargs, rfl, rfl, h0, r0⟩ := trodAll_cons hA
  obtain ⟨v1, vs1, d1, ds1, p1, q1, rfl, rfl, rfl, h1, r1⟩ := trodAll_cons r0
  obtain ⟨v2, vs2, d2, ds2, p2, q2, rfl, rfl, rfl, h2, r2⟩ := trodAll_cons r1
  obtain ⟨v3, vs3, d3, ds3, p3, q3, rfl, rfl, rfl, h3, r3⟩ := trodAll_cons r2
  obtain ⟨v4, vs4, d4, ds4, p4, q4, rfl, rfl, rfl, h4, r4⟩ := trodAll_cons r3
  obtain ⟨rfl, rfl, rfl⟩ := trodAll_nil r4
  obtain rfl : args = #[v0, v1, v2, v3, v4] := by cases args; simp_all
  obtain ⟨rfl, rfl⟩ := trodVars_none hV
  obtain ⟨a0, rfl, rfl, rfl, wa0⟩ := open_int Try.underlying65 (hval 0 65 v0 rfl rfl) h0
  obtain ⟨a1, rfl, rfl, rfl, wa1⟩ := open_int Try.underlying65 (hval 1 65 v1 rfl rfl) h1
  have k2 := h2
  have lt2 : ∀ x ∈ p2, x.block < W.heap.size := by obtain ⟨m, hm⟩ := k2; exact DataW.trod_lt m _ _ _ hm
  obtain ⟨cs2, rfl, hs2, hf2⟩ := HRow.open_fields Try.underlying80 (by kernel_rfl) (by kernel_rfl) (hval 2 80 v2 rfl rfl) h2
  obtain ⟨f2_0, f2_1, f2_2, rfl⟩ := HRow.array3 hs2
  obtain ⟨a2_0, rfl, wa2_0⟩ := HRow.field_int Try.underlying22 (hf2 0 _ _ rfl rfl)
  obtain ⟨a2_1, rfl, wa2_1⟩ := HRow.field_int Try.underlying22 (hf2 1 _ _ rfl rfl)
  obtain ⟨A2_2, c2_2, l2_2, rfl, r_l2_2, c_l2_2, m_l2_2, w_l2_2⟩ := HRow.field_bytes Try.underlying23 Try.underlying5 (by kernel_rfl) (hf2 2 _ _ rfl rfl)
  obtain ⟨a3, rfl, rfl, rfl, wa3⟩ := open_int Try.underlying22 (hval 3 22 v3 rfl rfl) h3
  obtain ⟨a4, rfl, rfl, rfl, wa4⟩ := open_int Try.underlying22 (hval 4 22 v4 rfl rfl) h4
  clear hA0 hval0 hsz0 hsz
  obtain ⟨k, hP⟩ := Pure.GramTurned a0 a1 a2_0 a2_1 l2_2 a3 a4 wa0 wa1 wa2_0 wa2_1 m_l2_2 w_l2_2 wa3 wa4
  refine (towropelaw08_GramTurned.calls k _ _ _ _ _ _ _ _ _ true rfl W r_l2_2 c_l2_2 hP).mono fun e W' he_ => ?_
  have he : e = .returned (.bool true) := he_.1
  have bel : Below W.heap.size W W' := by exact he_.2
  subst he
  exact ⟨_, rfl, _, _, _, [], _, [], hW', trodAll_mk1 (shut_bool Try.underlying4 _), (trodAll_cons_mk (shut_int Try.underlying65 wa0) (trodAll_cons_mk (shut_int Try.underlying65 wa1) (trodAll_cons_mk (Below.trod laidOut (by kernel_rfl) (of_decide_eq_true (by kernel_rfl)) k2 bel lt2) (trodAll_cons_mk (shut_int Try.underlying22 wa3) (trodAll_cons_mk (shut_int Try.underlying22 wa4) trodAll_mk0))))), rfl, bel.frame _, fun h => by cases h⟩
theorem over : Rows.gramTurnedRow.holds Try.pinned (OpenSpec.ofChange Rows.gramTurnedSpec) :=
  OpenClaim.holds_of_wide 13 Try.f13 rfl rfl rfl rfl rfl rfl rfl ⟨rfl, rfl, rfl, rfl, rfl⟩ rfl rfl rfl rfl rfl (by kernel_rfl) Try.func13 (by kernel_rfl)
    (of_decide_eq_true (by kernel_rfl)) (by unfold Func.isWrapper; first | (rw [if_pos (by decide +kernel)]; kernel_rfl) | (rw [if_neg (by decide +kernel)]; exact ⟨rfl, rfl⟩))
    (fun os started H enc _ => lifted os started H enc)
theorem proved : Rows.GramTurnedSaid := over
#print axioms proved
end Go.Proofs.Ytfmfpofbefgbgaa.gramTurned
namespace Go.Proofs.Ytfmfpofbefgbgaa
/-- The row, under a short name, for the claim. -/
theorem gramTurned_holds : Rows.GramTurnedSaid := gramTurned.proved
end Go.Proofs.Ytfmfpofbefgbgaa
