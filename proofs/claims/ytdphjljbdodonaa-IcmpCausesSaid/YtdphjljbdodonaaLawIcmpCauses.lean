-- The row of the law towropelaw07_IcmpCauses: the kit's form, its struct opened by its fields (wip/tools/rowx.py).
import Derived.Test.YtdphjljbdodonaaRows
import Derived.Test.YtdphjljbdodonaaPIcmpx8
import Derived.Test.YtdphjljbdodonaaPureIcmpCauses
import Derived.Test.YtdphjljbdodonaaHRow
import Derived.Test.YtdphjljbdodonaaWSized
import Derived.WalkKit
import Derived.ProofKit
import Derived.OpenShut
import Derived.ShutString
import Derived.ChangeOld
import Derived.Below
import Derived.SizedLaws
namespace Go.Proofs.Ytdphjljbdodonaa.icmpCauses
open Go.ChangeShapes Go.WideShapes Go.ChangeAt Go.RowKit Go.Proofs.Ytdphjljbdodonaa.PIcmp Go.Proofs.YtdphjljbdodonaaW.PrintWords
open Go.ChangeMaps (open_string shut_string)
set_option linter.unusedVariables false
theorem own : ownKnob Try.prog.godebug = none := by kernel_rfl
theorem laidOut : laidOutB Try.prog = true := by kernel_rfl
set_option maxRecDepth 100000 in
theorem lifted (os : Os) (started : os.Started) (H : Type) (enc : TypeId × Value → H) :
    ReturnsInHanded {} Try.checked os 8 .any (Rows.icmpCausesSpec.pre6 enc Try.prog Try.f8 Rows.icmpCausesRow.domain false) (Rows.icmpCausesSpec.post enc Try.prog Try.f8 false true false false) := by
  refine returnsInHanded_of_change_sized (C := Try.checked) own started (by kernel_rfl) Try.func8
    (ChangeSpec.witness6 (enc := enc) (C := Try.checked) false ⟨#[], #[.agg #[.int .u8 0, .int .u8 0, .int .u32 0, .slice none 0 0], .int .u8 0, .int .u8 0, .slice none 0 0], []⟩ 8 (by kernel_rfl) (by kernel_rfl) (by kernel_rfl) (by kernel_rfl)) ?_
  intro W base args ds gs before hval0 hW hcnd hsz0 _
  have hsz : (DataW.weightsEach Try.prog (Try.f8.params.toList ++ Rows.icmpCausesSpec.plain.varTypes Try.prog) (ds ++ gs)).all (· ≤ reachBytes) = true := hsz0
  have hval : ∀ (j : Nat) t v, Try.f8.params[j]? = some t → args[j]? = some v → Value.okWide Try.prog W .any base t v := hval0
  have hW' := hW
  obtain ⟨p, q, hA0, hV, rfl, hfz, hnd⟩ := hW
  have hA : DataW.TrodAll enc Try.prog W 0 (fun _ => true) true Try.f8.params.toList args.toList ds p := hA0
  rw [Try.params8] at hA hval hsz
  obtain ⟨v0, vs0, d0, ds0, p0, q0, hargs, rfl, rfl, h0, r0⟩ := trodAll_cons hA
  obtain ⟨v1, vs1, d1, ds1, p1, q1, rfl, rfl, rfl, h1, r1⟩ := trodAll_cons r0
  obtain ⟨v2, vs2, d2, ds2, p2, q2, rfl, rfl, rfl, h2, r2⟩ := trodAll_cons r1
  obtain ⟨v3, vs3, d3, ds3, p3, q3, rfl, rfl, rfl, h3, r3⟩ := trodAll_cons r2
  obtain ⟨rfl, rfl, rfl⟩ := trodAll_nil r3
  obtain rfl : args = #[v0, v1, v2, v3] := by cases args; simp_all
  obtain ⟨rfl, rfl⟩ := trodVars_none hV
  have k0 := h0
  have lt0 : ∀ x ∈ p0, x.block < W.heap.size := by obtain ⟨m, hm⟩ := k0; exact DataW.trod_lt m _ _ _ hm
  obtain ⟨cs0, rfl, hs0, hf0⟩ := HRow.open_fields Try.underlying25 (by kernel_rfl) (by kernel_rfl) (hval 0 25 v0 rfl rfl) h0
  obtain ⟨f0_0, f0_1, f0_2, f0_3, rfl⟩ := HRow.array4 hs0
  obtain ⟨a0_0, rfl, wa0_0⟩ := HRow.field_int Try.underlying5 (hf0 0 _ _ rfl rfl)
  obtain ⟨a0_1, rfl, wa0_1⟩ := HRow.field_int Try.underlying5 (hf0 1 _ _ rfl rfl)
  obtain ⟨a0_2, rfl, wa0_2⟩ := HRow.field_int Try.underlying22 (hf0 2 _ _ rfl rfl)
  obtain ⟨A0_3, c0_3, l0_3, rfl, r_l0_3, c_l0_3, m_l0_3, w_l0_3⟩ := HRow.field_bytes Try.underlying23 Try.underlying5 (by kernel_rfl) (hf0 3 _ _ rfl rfl)
  obtain ⟨a1, rfl, rfl, rfl, wa1⟩ := open_int Try.underlying5 (hval 1 5 v1 rfl rfl) h1
  obtain ⟨a2, rfl, rfl, rfl, wa2⟩ := open_int Try.underlying5 (hval 2 5 v2 rfl rfl) h2
  have k3 := h3
  have lt3 : ∀ x ∈ p3, x.block < W.heap.size := by obtain ⟨m, hm⟩ := k3; exact DataW.trod_lt m _ _ _ hm
  obtain ⟨A3, c3, l3, rfl, r_l3, c_l3, m_l3, w_l3⟩ : ∃ (A : Option Addr) (cap : Nat) (l : List Int), v3 = .slice A l.length cap ∧ Kd.C (Kd.int .u8) W A l.length l ∧ l.length ≤ cap ∧ l.length ≤ maxLen ∧ ∀ x ∈ l, (Lit.int .u8 x).wf = true := by
    obtain ⟨a0, len0, cap0, rfl⟩ := okWide_slice Try.underlying23 (hval 3 23 v3 rfl rfl)
    obtain ⟨fuel, hf⟩ := h3
    exact HRow.field_bytes Try.underlying23 Try.underlying5 (by kernel_rfl) ⟨fuel, _, hf⟩
  clear hA0 hval0 hsz0 hsz
  obtain ⟨k, hP⟩ := Pure.IcmpCauses a0_0 a0_1 a0_2 l0_3 a1 a2 l3 wa0_0 wa0_1 wa0_2 m_l0_3 w_l0_3 wa1 wa2 m_l3 w_l3
  refine (towropelaw07_IcmpCauses.calls k _ _ _ _ _ _ _ _ _ _ _ true W r_l0_3 c_l0_3 r_l3 c_l3 hP).mono fun e W' he_ => ?_
  have he : e = .returned (.bool true) := he_.1
  have bel : Below W.heap.size W W' := by exact he_.2
  subst he
  exact ⟨_, rfl, _, _, _, [], _, [], hW', trodAll_mk1 (shut_bool Try.underlying4 _), (trodAll_cons_mk (Below.trod laidOut (by kernel_rfl) (of_decide_eq_true (by kernel_rfl)) k0 bel lt0) (trodAll_cons_mk (shut_int Try.underlying5 wa1) (trodAll_cons_mk (shut_int Try.underlying5 wa2) (trodAll_cons_mk (Below.trod laidOut (by kernel_rfl) (of_decide_eq_true (by kernel_rfl)) k3 bel lt3) trodAll_mk0)))), rfl, bel.frame _, fun h => by cases h⟩
theorem over : Rows.icmpCausesRow.holds Try.pinned (OpenSpec.ofChange Rows.icmpCausesSpec) :=
  OpenClaim.holds_of_wide 8 Try.f8 rfl rfl rfl rfl rfl rfl rfl ⟨rfl, rfl, rfl, rfl, rfl⟩ rfl rfl rfl rfl rfl (by kernel_rfl) Try.func8 (by kernel_rfl)
    (of_decide_eq_true (by kernel_rfl)) (by unfold Func.isWrapper; first | (rw [if_pos (by decide +kernel)]; kernel_rfl) | (rw [if_neg (by decide +kernel)]; exact ⟨rfl, rfl⟩))
    (fun os started H enc _ => lifted os started H enc)
theorem proved : Rows.IcmpCausesSaid := over
#print axioms proved
end Go.Proofs.Ytdphjljbdodonaa.icmpCauses
namespace Go.Proofs.Ytdphjljbdodonaa
/-- The row, under a short name, for the claim. -/
theorem icmpCauses_holds : Rows.IcmpCausesSaid := icmpCauses.proved
end Go.Proofs.Ytdphjljbdodonaa
