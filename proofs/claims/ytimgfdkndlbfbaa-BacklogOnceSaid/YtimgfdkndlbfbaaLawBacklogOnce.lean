-- The row of the law towropelaw23_BacklogOnce: the kit's form, its acts opened by their cells.
import Derived.Test.YtimgfdkndlbfbaaRows
import Derived.Test.YtimgfdkndlbfbaaPBackLx2
import Derived.Test.YtimgfdkndlbfbaaHRow
import Derived.Test.YtimgfdkndlbfbaaHActs
import Derived.Test.YtimgfdkndlbfbaaWSized
import Derived.WalkKit
import Derived.ProofKit
import Derived.OpenShut
import Derived.ShutString
import Derived.ChangeOld
import Derived.Below
import Derived.SizedLaws
import Derived.LaidMore
namespace Go.Proofs.Ytimgfdkndlbfbaa.backlogOnce
open Go.Deep Go.ChangeShapes Go.WideShapes Go.ChangeAt Go.RowKit Go.Proofs.Ytimgfdkndlbfbaa.PBackL Go.Proofs.YtimgfdkndlbfbaaW.PrintWords Go.Proofs.YtimgfdkndlbfbaaW.PrintLast Go.Proofs.YtimgfdkndlbfbaaW.PrintMore
open Go.ChangeMaps (open_string shut_string)
set_option linter.unusedVariables false
theorem acts_open {H : Type} {enc : TypeId × Value → H} {w : World} {base : Nat} {held : Bool} {c : Value} (h : ∃ (n : Nat) (y : DataW H × List MemPlace), DataW.trod enc Try.prog w base (fun _ => true) held n 68 [c] = some y) :
    ∃ (A : Option Addr) (n cap : Nat), c = .slice A n cap ∧ n ≤ cap ∧ Acts w A n := by
  obtain ⟨A, n, cap, hc, hn, hel⟩ := HActs.open_structs Try.underlying68 Try.underlying76 (by kernel_rfl) (by kernel_rfl) h
  refine ⟨A, n, cap, hc, hn, fun i hi => ?_⟩
  obtain ⟨ad, e, cs, hl, hcell, hf⟩ := hel i hi
  obtain ⟨f0, f1, rfl⟩ : ∃ f0 f1, cs = [f0, f1] := by
    match cs, hl with
    | [f0, f1], _ => exact ⟨f0, f1, rfl⟩
  obtain ⟨d, rfl, -⟩ := HRow.field_int Try.underlying3 (hf 0 _ _ rfl rfl)
  obtain ⟨x, rfl, -⟩ := HRow.field_int Try.underlying3 (hf 1 _ _ rfl rfl)
  have k0 := hcell 0 (by decide)
  have k1 := hcell 1 (by decide)
  refine ⟨ad, e, d, x, ?_, ?_⟩
  · simpa [Addr.add] using k0
  · simpa [Addr.add] using k1
theorem own : ownKnob Try.prog.godebug = none := by kernel_rfl
theorem laidOut : laidOutB Try.prog = true := by kernel_rfl
set_option maxRecDepth 100000 in
theorem lifted (os : Os) (started : os.Started) (H : Type) (enc : TypeId × Value → H) :
    ReturnsInHanded {} Try.checked os 7 .any (Rows.backlogOnceSpec.pre6 enc Try.prog Try.f7 Rows.backlogOnceRow.domain false) (Rows.backlogOnceSpec.post enc Try.prog Try.f7 false true false false) := by
  refine returnsInHanded_of_change_sized (C := Try.checked) own started (by kernel_rfl) Try.func7
    (ChangeSpec.witness6 (enc := enc) (C := Try.checked) false ⟨#[], #[.slice none 0 0], []⟩ 8 (by kernel_rfl) (by kernel_rfl) (by kernel_rfl) (by kernel_rfl)) ?_
  intro W base args ds gs before hval0 hW hcnd hsz0 _
  have hsz : (DataW.weightsEach Try.prog (Try.f7.params.toList ++ Rows.backlogOnceSpec.plain.varTypes Try.prog) (ds ++ gs)).all (· ≤ reachBytes) = true := hsz0
  have hval : ∀ (j : Nat) t v, Try.f7.params[j]? = some t → args[j]? = some v → Value.okWide Try.prog W .any base t v := hval0
  have hW' := hW
  obtain ⟨p, q, hA0, hV, rfl, hfz, hnd⟩ := hW
  have hA : DataW.TrodAll enc Try.prog W 0 (fun _ => true) true Try.f7.params.toList args.toList ds p := hA0
  rw [Try.params7] at hA hval hsz
  obtain ⟨v0, vs0, d0, ds0, p0, q0, hargs, rfl, rfl, h0, r0⟩ := trodAll_cons hA
  obtain ⟨rfl, rfl, rfl⟩ := trodAll_nil r0
  obtain rfl : args = #[v0] := by cases args; simp_all
  obtain ⟨rfl, rfl⟩ := trodVars_none hV
  have k1 := h0
  have lt1 : ∀ x ∈ p0, x.block < W.heap.size := by obtain ⟨m, hm⟩ := k1; exact DataW.trod_lt m _ _ _ hm
  obtain ⟨A1, n1, c1, rfl, hn1, r_1⟩ : ∃ (A : Option Addr) (n cap : Nat), v0 = .slice A n cap ∧ n ≤ cap ∧ Acts W A n := by
    obtain ⟨a0, len0, cap0, rfl⟩ := okWide_slice Try.underlying68 (hval 0 68 v0 rfl rfl)
    obtain ⟨fuel, hf⟩ := h0
    exact acts_open ⟨fuel, _, hf⟩
  clear hA0 hval0 hsz0 hsz
  refine (towropelaw23_BacklogOnce.calls A1 n1 c1 W r_1).mono fun e W' he_ => ?_
  have he : e = .returned (.bool true) := he_.1
  have bel : Below W.heap.size W W' := by exact he_.2
  subst he
  exact ⟨_, rfl, _, _, _, [], _, [], hW', trodAll_mk1 (shut_bool Try.underlying4 _), ((trodAll_cons_mk (Below.trod laidOut (by kernel_rfl) (of_decide_eq_true (by kernel_rfl)) k1 bel lt1) trodAll_mk0)), rfl, bel.frame _, fun h => by cases h⟩
theorem over : Rows.backlogOnceRow.holds Try.pinned (OpenSpec.ofChange Rows.backlogOnceSpec) :=
  OpenClaim.holds_of_wide 7 Try.f7 rfl rfl rfl rfl rfl rfl rfl ⟨rfl, rfl, rfl, rfl, rfl⟩ rfl rfl rfl rfl rfl (by kernel_rfl) Try.func7 (by kernel_rfl)
    (of_decide_eq_true (by kernel_rfl)) (by unfold Func.isWrapper; first | (rw [if_pos (by decide +kernel)]; kernel_rfl) | (rw [if_neg (by decide +kernel)]; exact ⟨rfl, rfl⟩))
    (fun os started H enc _ => lifted os started H enc)
theorem proved : Rows.BacklogOnceSaid := over
#print axioms proved
end Go.Proofs.Ytimgfdkndlbfbaa.backlogOnce
namespace Go.Proofs.Ytimgfdkndlbfbaa
/-- The row, under a short name, for the claim. -/
theorem backlogOnce_holds : Rows.BacklogOnceSaid := backlogOnce.proved
end Go.Proofs.Ytimgfdkndlbfbaa
