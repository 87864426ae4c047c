-- The row of the law towropelaw15_HosePlays: the kit's form, its acts opened by their cells.
import Derived.Test.YtfmfpofbefgbgaaRows
import Derived.Test.YtfmfpofbefgbgaaPHoseLx3
import Derived.Test.YtfmfpofbefgbgaaHRow
import Derived.Test.YtfmfpofbefgbgaaHActs
import Derived.Test.YtfmfpofbefgbgaaWSized
import Derived.WalkKit
import Derived.ProofKit
import Derived.OpenShut
import Derived.ShutString
import Derived.ChangeOld
import Derived.Below
import Derived.SizedLaws
import Derived.LaidMore
namespace Go.Proofs.Ytfmfpofbefgbgaa.hosePlays
open Go.Deep Go.ChangeShapes Go.WideShapes Go.ChangeAt Go.RowKit Go.Proofs.Ytfmfpofbefgbgaa.PHoseL Go.Proofs.YtfmfpofbefgbgaaW.PrintWords Go.Proofs.YtfmfpofbefgbgaaW.PrintLast Go.Proofs.YtfmfpofbefgbgaaW.PrintMore
open Go.ChangeMaps (open_string shut_string)
set_option linter.unusedVariables false
theorem acts_open {H : Type} {enc : TypeId × Value → H} {w : World} {base : Nat} {held : Bool} {c : Value} (h : ∃ (n : Nat) (y : DataW H × List MemPlace), DataW.trod enc Try.prog w base (fun _ => true) held n 34 [c] = some y) :
    ∃ (A : Option Addr) (n cap : Nat), c = .slice A n cap ∧ n ≤ cap ∧ Acts w A n := by
  obtain ⟨A, n, cap, hc, hn, hel⟩ := HActs.open_structs Try.underlying34 Try.underlying37 (by kernel_rfl) (by kernel_rfl) h
  refine ⟨A, n, cap, hc, hn, fun i hi => ?_⟩
  obtain ⟨ad, e, cs, hl, hcell, hf⟩ := hel i hi
  obtain ⟨f0, f1, f2, f3, rfl⟩ : ∃ f0 f1 f2 f3, cs = [f0, f1, f2, f3] := by
    match cs, hl with
    | [f0, f1, f2, f3], _ => exact ⟨f0, f1, f2, f3, rfl⟩
  obtain ⟨d, rfl, -⟩ := HRow.field_int Try.underlying3 (hf 0 _ _ rfl rfl)
  obtain ⟨t, rfl, -⟩ := HRow.field_int Try.underlying3 (hf 1 _ _ rfl rfl)
  obtain ⟨q, rfl, -⟩ := HRow.field_int Try.underlying3 (hf 2 _ _ rfl rfl)
  obtain ⟨B, cb, l, rfl, hC, hlc, -, -⟩ := HRow.field_bytes Try.underlying23 Try.underlying5 (by kernel_rfl) (hf 3 _ _ rfl rfl)
  have k0 := hcell 0 (by decide)
  have k1 := hcell 1 (by decide)
  have k2 := hcell 2 (by decide)
  have k3 := hcell 3 (by decide)
  refine ⟨ad, e, d, t, q, B, cb, l, ?_, ?_, ?_, ?_, hC, hlc⟩
  · simpa [Addr.add] using k0
  · simpa [Addr.add] using k1
  · simpa [Addr.add] using k2
  · simpa [Addr.add] using k3
theorem own : ownKnob Try.prog.godebug = none := by kernel_rfl
theorem laidOut : laidOutB Try.prog = true := by kernel_rfl
set_option maxRecDepth 100000 in
theorem lifted (os : Os) (started : os.Started) (H : Type) (enc : TypeId × Value → H) :
    ReturnsInHanded {} Try.checked os 4 .any (Rows.hosePlaysSpec.pre6 enc Try.prog Try.f4 Rows.hosePlaysRow.domain false) (Rows.hosePlaysSpec.post enc Try.prog Try.f4 false true false false) := by
  refine returnsInHanded_of_change_sized (C := Try.checked) own started (by kernel_rfl) Try.func4
    (ChangeSpec.witness6 (enc := enc) (C := Try.checked) false ⟨#[], #[.int .i64 0, .slice none 0 0], []⟩ 8 (by kernel_rfl) (by kernel_rfl) (by kernel_rfl) (by kernel_rfl)) ?_
  intro W base args ds gs before hval0 hW hcnd hsz0 _
  have hsz : (DataW.weightsEach Try.prog (Try.f4.params.toList ++ Rows.hosePlaysSpec.plain.varTypes Try.prog) (ds ++ gs)).all (· ≤ reachBytes) = true := hsz0
  have hval : ∀ (j : Nat) t v, Try.f4.params[j]? = some t → args[j]? = some v → Value.okWide Try.prog W .any base t v := hval0
  have hW' := hW
  obtain ⟨p, q, hA0, hV, rfl, hfz, hnd⟩ := hW
  have hA : DataW.TrodAll enc Try.prog W 0 (fun _ => true) true Try.f4.params.toList args.toList ds p := hA0
  rw [Try.params4] at hA hval hsz
  obtain ⟨v0, vs0, d0, ds0, p0, q0, hargs, rfl, rfl, h0, r0⟩ := trodAll_cons hA
  obtain ⟨v1, vs1, d1, ds1, p1, q1, rfl, rfl, rfl, h1, r1⟩ := trodAll_cons r0
  obtain ⟨rfl, rfl, rfl⟩ := trodAll_nil r1
  obtain rfl : args = #[v0, v1] := by cases args; simp_all
  obtain ⟨rfl, rfl⟩ := trodVars_none hV
  obtain ⟨a0, rfl, rfl, rfl, wa0⟩ := open_int Try.underlying3 (hval 0 3 v0 rfl rfl) h0
  have k1 := h1
  have lt1 : ∀ x ∈ p1, x.block < W.heap.size := by obtain ⟨m, hm⟩ := k1; exact DataW.trod_lt m _ _ _ hm
  obtain ⟨A1, n1, c1, rfl, hn1, r_1⟩ : ∃ (A : Option Addr) (n cap : Nat), v1 = .slice A n cap ∧ n ≤ cap ∧ Acts W A n := by
    obtain ⟨a0, len0, cap0, rfl⟩ := okWide_slice Try.underlying34 (hval 1 34 v1 rfl rfl)
    obtain ⟨fuel, hf⟩ := h1
    exact acts_open ⟨fuel, _, hf⟩
  have hm1 : n1 ≤ 9223372036854775807 := by
    obtain ⟨fuel, hf⟩ := h1
    rcases DataW.trod_slice Try.underlying34 hf with ⟨hcs, _⟩ | ⟨a, len, cap, elems, rest, n, _, hcs, _, _, hlc, hcm, _⟩
    · simp [Value.cells] at hcs; omega
    · simp [Value.cells, maxLen] at hcs hcm; omega
  clear hA0 hval0 hsz0 hsz
  refine (towropelaw15_HosePlays.calls a0 A1 n1 c1 W r_1 hn1 hm1).mono fun e W' he_ => ?_
  have he : e = .returned (.bool true) := he_.1
  have bel : Below W.heap.size W W' := by exact he_.2
  subst he
  exact ⟨_, rfl, _, _, _, [], _, [], hW', trodAll_mk1 (shut_bool Try.underlying4 _), (trodAll_cons_mk (shut_int Try.underlying3 wa0) (trodAll_cons_mk (Below.trod laidOut (by kernel_rfl) (of_decide_eq_true (by kernel_rfl)) k1 bel lt1) trodAll_mk0)), rfl, bel.frame _, fun h => by cases h⟩
theorem over : Rows.hosePlaysRow.holds Try.pinned (OpenSpec.ofChange Rows.hosePlaysSpec) :=
  OpenClaim.holds_of_wide 4 Try.f4 rfl rfl rfl rfl rfl rfl rfl ⟨rfl, rfl, rfl, rfl, rfl⟩ rfl rfl rfl rfl rfl (by kernel_rfl) Try.func4 (by kernel_rfl)
    (of_decide_eq_true (by kernel_rfl)) (by unfold Func.isWrapper; first | (rw [if_pos (by decide +kernel)]; kernel_rfl) | (rw [if_neg (by decide +kernel)]; exact ⟨rfl, rfl⟩))
    (fun os started H enc _ => lifted os started H enc)
theorem proved : Rows.HosePlaysSaid := over
#print axioms proved
end Go.Proofs.Ytfmfpofbefgbgaa.hosePlays
namespace Go.Proofs.Ytfmfpofbefgbgaa
/-- The row, under a short name, for the claim. -/
theorem hosePlays_holds : Rows.HosePlaysSaid := hosePlays.proved
end Go.Proofs.Ytfmfpofbefgbgaa
