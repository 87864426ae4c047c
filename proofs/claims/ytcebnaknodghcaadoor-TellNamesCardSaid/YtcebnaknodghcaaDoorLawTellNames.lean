-- The card of the law towropelaw34_TellNames: the kit's form of a tied card (its guide's worked ones), the row's arguments opened by <Name>HRow (wip/tools/rowx.py).
import Derived.Test.YtcebnaknodghcaaDoorTie
import Derived.Test.YtcebnaknodghcaaDoorCards
import Derived.Test.YtcebnaknodghcaaDoorHItoa
import Derived.ProofKit
import Derived.Handy
import Derived.Lay
import Derived.SevenTiedAt
import Derived.MakeChecks
import Derived.Stop.LaidErr
import Derived.Test.YtcebnaknodghcaaDoorRows
import Derived.Test.YtcebnaknodghcaaDoorPTelx5
import Derived.Test.YtcebnaknodghcaaDoorPureTellNames
import Derived.Test.YtcebnaknodghcaaDoorHRow
import Derived.Test.YtcebnaknodghcaaDoorWSized
import Derived.WalkKit
import Derived.ProofKit
import Derived.OpenShut
import Derived.ShutString
import Derived.ChangeOld
import Derived.Below
import Derived.SizedLaws
namespace Go.Proofs.YtcebnaknodghcaaDoor.tellNames
open Go.ChangeShapes Go.WideShapes Go.ChangeAt Go.RowKit Go.Proofs.YtcebnaknodghcaaDoor.PTel Go.Proofs.YtcebnaknodghcaaDoorW.PrintWords
open Go.ChangeMaps (open_string shut_string)
set_option linter.unusedVariables false
theorem own : ownKnob Tryd.prog.godebug = none := by kernel_rfl
theorem laidOut : laidOutB Tryd.prog = true := by kernel_rfl
set_option maxRecDepth 100000 in
theorem lifted (os : Os) (started : os.Started) (H : Type) (enc : TypeId × Value → H) :
    ReturnsInHanded {} Tryd.checked os 6 .any (fun w args => (Rows.tellNamesSpec.pre enc Tryd.prog Tryd.f6 [] false w args ∧ laidMetH Tryd.prog Rows.tellNamesRow.laid w) ∧ sizedMet enc Tryd.prog Tryd.f6 (OpenSpec.ofChange Rows.tellNamesSpec) false w args) (Rows.tellNamesSpec.post enc Tryd.prog Tryd.f6 false true false false) := by
  refine returnsInHanded_of_change_and (C := Tryd.checked) (X := fun w _ => laidMetH Tryd.prog Rows.tellNamesRow.laid w) (fun _ _ _ hh h => h.of_heap hh) own started (by kernel_rfl) Tryd.func6
    (ChangeSpec.witness_shaped (enc := enc) (C := Tryd.checked) (os := os) (X := fun w _ => laidMetH Tryd.prog Rows.tellNamesRow.laid w) false (World.laidAll Tryd.prog os Rows.tellNamesRow.laid) #[.int .i64 0, .int .u8 0, .agg #[.int .u32 0, .int .u16 0]] 8 (World.laidAll_os _ _ _)
      (World.shaped_of_ZipB (by kernel_rfl) (by kernel_rfl)) (by kernel_rfl) (by kernel_rfl) (by kernel_rfl)
      (by rw [MakeChecks.laidMetH_plain _ _ _ (by kernel_rfl)]; exact laidMet_laidAll _ (by kernel_rfl) (by kernel_rfl))) ?_
  intro W base args ds gs before hval0 hW hcnd hsz0 hL _
  have hTab : HItoa.Tab W := by
    rw [MakeChecks.laidMetH_plain _ _ _ (by kernel_rfl)] at hL
    exact HItoa.tab_of_laid hL.tail.tail
  have hsz : (DataW.weightsEach Tryd.prog (Tryd.f6.params.toList ++ Rows.tellNamesSpec.plain.varTypes Tryd.prog) (ds ++ gs)).all (· ≤ reachBytes) = true := hsz0
  have hval : ∀ (j : Nat) t v, Tryd.f6.params[j]? = some t → args[j]? = some v → Value.okWide Tryd.prog W .any base t v := hval0
  have hW' := hW
  obtain ⟨p, q, hA0, hV, rfl, hfz, hnd⟩ := hW
  have hA : DataW.TrodAll enc Tryd.prog W 0 (fun _ => true) true Tryd.f6.params.toList args.toList ds p := hA0
  rw [Tryd.params6] at hA hval hsz
  obtain ⟨v0, vs0, d0, ds0, p0, q0, hargs, rfl, rfl, h0, r0⟩ := trodAll_cons hA
  obtain ⟨v1, vs1, d1, ds1, p1, q1, rfl, rfl, rfl, h1, r1⟩ := trodAll_cons r0
  obtain ⟨v2, vs2, d2, ds2, p2, q2, rfl, rfl, rfl, h2, r2⟩ := trodAll_cons r1
  obtain ⟨rfl, rfl, rfl⟩ := trodAll_nil r2
  obtain rfl : args = #[v0, v1, v2] := by cases args; simp_all
  obtain ⟨rfl, rfl⟩ := trodVars_none hV
  obtain ⟨a0, rfl, rfl, rfl, wa0⟩ := open_int Tryd.underlying3 (hval 0 3 v0 rfl rfl) h0
  obtain ⟨a1, rfl, rfl, rfl, wa1⟩ := open_int Tryd.underlying5 (hval 1 5 v1 rfl rfl) h1
  have k2 := h2
  have lt2 : ∀ x ∈ p2, x.block < W.heap.size := by obtain ⟨m, hm⟩ := k2; exact DataW.trod_lt m _ _ _ hm
  obtain ⟨cs2, rfl, hs2, hf2⟩ := HRow.open_fields Tryd.underlying50 (by kernel_rfl) (by kernel_rfl) (hval 2 50 v2 rfl rfl) h2
  obtain ⟨f2_0, f2_1, rfl⟩ := HRow.array2 hs2
  obtain ⟨a2_0, rfl, wa2_0⟩ := HRow.field_int Tryd.underlying26 (hf2 0 _ _ rfl rfl)
  obtain ⟨a2_1, rfl, wa2_1⟩ := HRow.field_int Tryd.underlying27 (hf2 1 _ _ rfl rfl)
  clear hA0 hval0 hsz0 hsz
  obtain ⟨k, hP⟩ := Pure.TellNames a0 a1 a2_0 a2_1 wa0 wa1 wa2_0 wa2_1
  refine (towropelaw34_TellNames.calls k _ _ _ _ true rfl W hTab hP).mono fun e W' he_ => ?_
  have he : e = .returned (.bool true) := he_.1
  have bel : Below W.heap.size W W' := by exact he_.2
  subst he
  exact ⟨_, rfl, _, _, _, [], _, [], hW', trodAll_mk1 (shut_bool Tryd.underlying4 _), (trodAll_cons_mk (shut_int Tryd.underlying3 wa0) (trodAll_cons_mk (shut_int Tryd.underlying5 wa1) (trodAll_cons_mk (Below.trod laidOut (by kernel_rfl) (of_decide_eq_true (by kernel_rfl)) k2 bel lt2) trodAll_mk0))), rfl, bel.frame _, fun h => by cases h⟩
theorem over : Rows.tellNamesRow.holds Tryd.pinned (OpenSpec.ofChange Rows.tellNamesSpec) :=
  OpenClaim.holds_of_wide 6 Tryd.f6 rfl rfl rfl rfl rfl rfl rfl ⟨rfl, rfl, rfl, rfl, rfl⟩ rfl rfl rfl rfl rfl (by kernel_rfl) Tryd.func6 (by kernel_rfl)
    (of_decide_eq_true (by kernel_rfl)) (by unfold Func.isWrapper; first | (rw [if_pos (by decide +kernel)]; kernel_rfl) | (rw [if_neg (by decide +kernel)]; exact ⟨rfl, rfl⟩))
    (fun os started H enc _ => lifted os started H enc)
theorem proved : Rows.TellNamesSaid := over
theorem card : Rows.TellNamesCardSaid :=
  Claim7.holds_tied_plain_at .later [] [.data, .data, .data] true (true, "5a03b2bdc9d195c1d3d3c70ca825cf56423e4cb4aafcafcf02a2ae2e415db7c1") true proved (fun _ h => by cases h) (by kernel_rfl) (fun _ h => by cases h) tellNames_row_tie rfl ⟨rfl, rfl⟩ (by kernel_rfl) rfl
    (fun f fn hf hfn => by
      obtain rfl : f = 6 := Option.some.inj ((show Tryd.prog.funcNamed "towrope/towropelaw34.TellNames" = some 6 by kernel_rfl).symm.trans hf) |>.symm
      obtain rfl : fn = Tryd.f6 := (Option.some.inj (Tryd.func6.symm.trans hfn)).symm
      exact ⟨by kernel_rfl, fun j t ht => by
        rw [Tryd.params6] at ht
        have hm : t ∈ [3, 5, 50] := by simpa using Array.mem_of_getElem? ht
        have hall : ([3, 5, 50].all fun u => !Tryd.prog.wantsStandIn u) = true := by kernel_rfl
        exact (show Tryd.prog.wantsStandIn t = false by simpa using List.all_eq_true.1 hall t hm)⟩)
    (by kernel_rfl)
#print axioms card
end Go.Proofs.YtcebnaknodghcaaDoor.tellNames
namespace Go.Proofs.YtcebnaknodghcaaDoor
/-- The card, under a short name, for the claim. -/
theorem tellNames_holds : Rows.TellNamesCardSaid := tellNames.card
end Go.Proofs.YtcebnaknodghcaaDoor
