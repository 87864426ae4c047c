-- The row of the law towropelaw15_HoseOrder: the kit's form, its struct opened by its fields (wip/tools/rowx.py).
import Derived.Test.YtfmfpofbefgbgaaRows
import Derived.Test.YtfmfpofbefgbgaaPHoseLx1
import Derived.Test.YtfmfpofbefgbgaaPureHoseOrder
import Derived.Test.YtfmfpofbefgbgaaHRow
import Derived.Test.YtfmfpofbefgbgaaWSized
import Derived.WalkKit
import Derived.ProofKit
import Derived.OpenShut
import Derived.ShutString
import Derived.ChangeOld
import Derived.Below
import Derived.SizedLaws
namespace Go.Proofs.Ytfmfpofbefgbgaa.hoseOrder
open Go.ChangeShapes Go.WideShapes Go.ChangeAt Go.RowKit Go.Proofs.Ytfmfpofbefgbgaa.PHoseL Go.Proofs.YtfmfpofbefgbgaaW.PrintWords
open Go.ChangeMaps (open_string shut_string)
set_option linter.unusedVariables false
theorem own : ownKnob Try.prog.godebug = none := by kernel_rfl
theorem laidOut : laidOutB Try.prog = true := by kernel_rfl
set_option maxRecDepth 100000 in
theorem lifted (os : Os) (started : os.Started) (H : Type) (enc : TypeId × Value → H) :
    ReturnsInHanded {} Try.checked os 3 .any (Rows.hoseOrderSpec.pre6 enc Try.prog Try.f3 Rows.hoseOrderRow.domain false) (Rows.hoseOrderSpec.post enc Try.prog Try.f3 false true false false) := by
  refine returnsInHanded_of_change_sized (C := Try.checked) own started (by kernel_rfl) Try.func3
    (ChangeSpec.witness6 (enc := enc) (C := Try.checked) false ⟨#[], #[.int .u16 0, .slice none 0 0, .slice none 0 0], []⟩ 8 (by kernel_rfl) (by kernel_rfl) (by kernel_rfl) (by kernel_rfl)) ?_
  intro W base args ds gs before hval0 hW hcnd hsz0 _
  have hsz : (DataW.weightsEach Try.prog (Try.f3.params.toList ++ Rows.hoseOrderSpec.plain.varTypes Try.prog) (ds ++ gs)).all (· ≤ reachBytes) = true := hsz0
  have hval : ∀ (j : Nat) t v, Try.f3.params[j]? = some t → args[j]? = some v → Value.okWide Try.prog W .any base t v := hval0
  have hW' := hW
  obtain ⟨p, q, hA0, hV, rfl, hfz, hnd⟩ := hW
  have hA : DataW.TrodAll enc Try.prog W 0 (fun _ => true) true Try.f3.params.toList args.toList ds p := hA0
  rw [Try.params3] at hA hval hsz
  obtain ⟨v0, vs0, d0, ds0, p0, q0, hargs, rfl, rfl, h0, r0⟩ := trodAll_cons hA
  obtain ⟨v1, vs1, d1, ds1, p1, q1, rfl, rfl, rfl, h1, r1⟩ := trodAll_cons r0
  obtain ⟨v2, vs2, d2, ds2, p2, q2, rfl, rfl, rfl, h2, r2⟩ := trodAll_cons r1
  obtain ⟨rfl, rfl, rfl⟩ := trodAll_nil r2
  obtain rfl : args = #[v0, v1, v2] := by cases args; simp_all
  obtain ⟨rfl, rfl⟩ := trodVars_none hV
  obtain ⟨a0, rfl, rfl, rfl, wa0⟩ := open_int Try.underlying22 (hval 0 22 v0 rfl rfl) h0
  have k1 := h1
  have lt1 : ∀ x ∈ p1, x.block < W.heap.size := by obtain ⟨m, hm⟩ := k1; exact DataW.trod_lt m _ _ _ hm
  obtain ⟨A1, c1, l1, rfl, r_l1, c_l1, m_l1, w_l1⟩ : ∃ (A : Option Addr) (cap : Nat) (l : List Int), v1 = .slice A l.length cap ∧ Kd.C (Kd.int .u8) W A l.length l ∧ l.length ≤ cap ∧ l.length ≤ maxLen ∧ ∀ x ∈ l, (Lit.int .u8 x).wf = true := by
    obtain ⟨a0, len0, cap0, rfl⟩ := okWide_slice Try.underlying23 (hval 1 23 v1 rfl rfl)
    obtain ⟨fuel, hf⟩ := h1
    exact HRow.field_bytes Try.underlying23 Try.underlying5 (by kernel_rfl) ⟨fuel, _, hf⟩
  have k2 := h2
  have lt2 : ∀ x ∈ p2, x.block < W.heap.size := by obtain ⟨m, hm⟩ := k2; exact DataW.trod_lt m _ _ _ hm
  obtain ⟨A2, c2, l2, rfl, r_l2, c_l2, m_l2, w_l2⟩ : ∃ (A : Option Addr) (cap : Nat) (l : List Int), v2 = .slice A l.length cap ∧ Kd.C (Kd.int .u8) W A l.length l ∧ l.length ≤ cap ∧ l.length ≤ maxLen ∧ ∀ x ∈ l, (Lit.int .u8 x).wf = true := by
    obtain ⟨a0, len0, cap0, rfl⟩ := okWide_slice Try.underlying23 (hval 2 23 v2 rfl rfl)
    obtain ⟨fuel, hf⟩ := h2
    exact HRow.field_bytes Try.underlying23 Try.underlying5 (by kernel_rfl) ⟨fuel, _, hf⟩
  clear hA0 hval0 hsz0 hsz
  obtain hP := Pure.HoseOrder a0 l1 l2 wa0 m_l1 w_l1 m_l2 w_l2
  refine (towropelaw15_HoseOrder.calls _ _ _ _ _ _ _ true W r_l1 c_l1 r_l2 c_l2 hP).mono fun e W' he_ => ?_
  have he : e = .returned (.bool true) := he_.1
  have bel : Below W.heap.size W W' := by exact he_.2
  subst he
  exact ⟨_, rfl, _, _, _, [], _, [], hW', trodAll_mk1 (shut_bool Try.underlying4 _), (trodAll_cons_mk (shut_int Try.underlying22 wa0) (trodAll_cons_mk (Below.trod laidOut (by kernel_rfl) (of_decide_eq_true (by kernel_rfl)) k1 bel lt1) (trodAll_cons_mk (Below.trod laidOut (by kernel_rfl) (of_decide_eq_true (by kernel_rfl)) k2 bel lt2) trodAll_mk0))), rfl, bel.frame _, fun h => by cases h⟩
theorem over : Rows.hoseOrderRow.holds Try.pinned (OpenSpec.ofChange Rows.hoseOrderSpec) :=
  OpenClaim.holds_of_wide 3 Try.f3 rfl rfl rfl rfl rfl rfl rfl ⟨rfl, rfl, rfl, rfl, rfl⟩ rfl rfl rfl rfl rfl (by kernel_rfl) Try.func3 (by kernel_rfl)
    (of_decide_eq_true (by kernel_rfl)) (by unfold Func.isWrapper; first | (rw [if_pos (by decide +kernel)]; kernel_rfl) | (rw [if_neg (by decide +kernel)]; exact ⟨rfl, rfl⟩))
    (fun os started H enc _ => lifted os started H enc)
theorem proved : Rows.HoseOrderSaid := over
#print axioms proved
end Go.Proofs.Ytfmfpofbefgbgaa.hoseOrder
namespace Go.Proofs.Ytfmfpofbefgbgaa
/-- The row, under a short name, for the claim. -/
theorem hoseOrder_holds : Rows.HoseOrderSaid := hoseOrder.proved
end Go.Proofs.Ytfmfpofbefgbgaa
