-- The row of the law BacklogPlays: the kit's form, its arguments opened by their cells (wip/tools/lawrow.py).
import Derived.Test.YtimgfdkndlbfbaaRows
import Derived.Test.YtimgfdkndlbfbaaPBackLx4
import Derived.Test.YtimgfdkndlbfbaaHRow
import Derived.Test.YtimgfdkndlbfbaaHActs
import Derived.Test.YtimgfdkndlbfbaaWSized
import Derived.WalkKit
import Derived.ProofKit
import Derived.OpenShut
import Derived.ShutString
import Derived.ChangeOld
import Derived.Below
import Derived.SizedLaws
import Derived.LaidMore
namespace Go.Proofs.Ytimgfdkndlbfbaa.backlogPlays
open Go.Deep Go.ChangeShapes Go.WideShapes Go.ChangeAt Go.RowKit Go.Proofs.Ytimgfdkndlbfbaa.PBackL Go.Proofs.YtimgfdkndlbfbaaW.PrintWords Go.Proofs.YtimgfdkndlbfbaaW.PrintLast Go.Proofs.YtimgfdkndlbfbaaW.PrintMore
open Go.ChangeMaps (open_string shut_string)
set_option linter.unusedVariables false
theorem open2 {H : Type} {enc : TypeId × Value → H} {w : World} {base : Nat} {held : Bool} {c : Value} (h : ∃ (n : Nat) (y : DataW H × List MemPlace), DataW.trod enc Try.prog w base (fun _ => true) held n 68 [c] = some y) :
    ∃ (A : Option Addr) (n cap : Nat), c = .slice A n cap ∧ n ≤ cap ∧ Acts w A n := by
  obtain ⟨A, n, cap, hc, hn, hel⟩ := HActs.open_structs Try.underlying68 Try.underlying76 (by kernel_rfl) (by kernel_rfl) h
  refine ⟨A, n, cap, hc, hn, fun i hi => ?_⟩
  obtain ⟨ad, e, cs, hl, hcell, hf⟩ := hel i hi
  obtain ⟨f0, f1, rfl⟩ : ∃ f0 f1, cs = [f0, f1] := by
    match cs, hl with
    | [f0, f1], _ => exact ⟨f0, f1, rfl⟩
  obtain ⟨x0, rfl, wx0⟩ := HRow.field_int Try.underlying3 (hf 0 _ _ rfl rfl)
  obtain ⟨x1, rfl, wx1⟩ := HRow.field_int Try.underlying3 (hf 1 _ _ rfl rfl)
  have k0 := hcell 0 (by decide)
  have k1 := hcell 1 (by decide)
  refine ⟨ad, e, x0, x1, ?_, ?_⟩
  · simpa [Addr.add] using k0
  · simpa [Addr.add] using k1
theorem own : ownKnob Try.prog.godebug = none := by kernel_rfl
theorem laidOut : laidOutB Try.prog = true := by kernel_rfl
set_option maxRecDepth 100000 in
theorem lifted (os : Os) (started : os.Started) (H : Type) (enc : TypeId × Value → H) :
    ReturnsInHanded {} Try.checked os 6 .any (Rows.backlogPlaysSpec.pre6 enc Try.prog Try.f6 Rows.backlogPlaysRow.domain false) (Rows.backlogPlaysSpec.post enc Try.prog Try.f6 false true false false) := by
  refine returnsInHanded_of_change_sized (C := Try.checked) own started (by kernel_rfl) Try.func6
    (ChangeSpec.witness6 (enc := enc) (C := Try.checked) false ⟨#[], #[.int .i64 0, .int .i64 0, .slice none 0 0], []⟩ 8 (by kernel_rfl) (by kernel_rfl) (by kernel_rfl) (by kernel_rfl)) ?_
  intro W base args ds gs before hval0 hW hcnd hsz0 _
  have hsz : (DataW.weightsEach Try.prog (Try.f6.params.toList ++ Rows.backlogPlaysSpec.plain.varTypes Try.prog) (ds ++ gs)).all (· ≤ reachBytes) = true := hsz0
  have hval : ∀ (j : Nat) t v, Try.f6.params[j]? = some t → args[j]? = some v → Value.okWide Try.prog W .any base t v := hval0
  have hW' := hW
  obtain ⟨p, q, hA0, hV, rfl, hfz, hnd⟩ := hW
  have hA : DataW.TrodAll enc Try.prog W 0 (fun _ => true) true Try.f6.params.toList args.toList ds p := hA0
  rw [Try.params6] at hA hval hsz
  obtain ⟨v0, vs0, d0, ds0, p0, q0, hargs, rfl, rfl, h0, r0⟩ := trodAll_cons hA
  obtain ⟨v1, vs1, d1, ds1, p1, q1, rfl, rfl, rfl, h1, r1⟩ := trodAll_cons r0
  obtain ⟨v2, vs2, d2, ds2, p2, q2, rfl, rfl, rfl, h2, r2⟩ := trodAll_cons r1
  obtain ⟨rfl, rfl, rfl⟩ := trodAll_nil r2
  obtain rfl : args = #[v0, v1, v2] := by cases args; simp_all
  obtain ⟨rfl, rfl⟩ := trodVars_none hV
  obtain ⟨a0, rfl, rfl, rfl, wa0⟩ := open_int Try.underlying3 (hval 0 3 v0 rfl rfl) h0
  obtain ⟨a1, rfl, rfl, rfl, wa1⟩ := open_int Try.underlying3 (hval 1 3 v1 rfl rfl) h1
  have k2 := h2
  have lt2 : ∀ x ∈ p2, x.block < W.heap.size := by obtain ⟨m, hm⟩ := k2; exact DataW.trod_lt m _ _ _ hm
  obtain ⟨A2, n2, c2, rfl, hn2, r_2⟩ : ∃ (A : Option Addr) (n cap : Nat), v2 = .slice A n cap ∧ n ≤ cap ∧ Acts W A n := by
    obtain ⟨a0, len0, cap0, rfl⟩ := okWide_slice Try.underlying68 (hval 2 68 v2 rfl rfl)
    obtain ⟨fuel, hf⟩ := h2
    exact open2 ⟨fuel, _, hf⟩
  clear hA0 hval0 hsz0 hsz
  refine (towropelaw23_BacklogPlays.calls a0 a1 A2 n2 c2 W r_2).mono fun e W' he_ => ?_
  have he : e = .returned (.bool true) := he_.1
  have bel : Below W.heap.size W W' := he_.2
  subst he
  exact ⟨_, rfl, _, _, _, [], _, [], hW', trodAll_mk1 (shut_bool Try.underlying4 _), (trodAll_cons_mk (shut_int Try.underlying3 wa0) (trodAll_cons_mk (shut_int Try.underlying3 wa1) (trodAll_cons_mk (Below.trod laidOut (by kernel_rfl) (of_decide_eq_true (by kernel_rfl)) k2 bel lt2) trodAll_mk0))), rfl, bel.frame _, fun h => by cases h⟩
theorem over : Rows.backlogPlaysRow.holds Try.pinned (OpenSpec.ofChange Rows.backlogPlaysSpec) :=
  OpenClaim.holds_of_wide 6 Try.f6 rfl rfl rfl rfl rfl rfl rfl ⟨rfl, rfl, rfl, rfl, rfl⟩ rfl rfl rfl rfl rfl (by kernel_rfl) Try.func6 (by kernel_rfl)
    (of_decide_eq_true (by kernel_rfl)) (by unfold Func.isWrapper; first | (rw [if_pos (by decide +kernel)]; kernel_rfl) | (rw [if_neg (by decide +kernel)]; exact ⟨rfl, rfl⟩))
    (fun os started H enc _ => lifted os started H enc)
theorem proved : Rows.BacklogPlaysSaid := over
#print axioms proved
end Go.Proofs.Ytimgfdkndlbfbaa.backlogPlays
namespace Go.Proofs.Ytimgfdkndlbfbaa
/-- The row, under a short name, for the claim. -/
theorem backlogPlays_holds : Rows.BacklogPlaysSaid := backlogPlays.proved
end Go.Proofs.Ytimgfdkndlbfbaa
