/- The laws of pool: live. Conditions: each theorem's own. -/
import Derived.Test.YtfmfpofbefgbgaaHPoolT
namespace Go.Proofs.Ytfmfpofbefgbgaa.PPoolL
open Go.RowKit Go.Proofs.YtfmfpofbefgbgaaW.PrintWords Go.Proofs.YtfmfpofbefgbgaaW.PrintLast Go.Proofs.YtfmfpofbefgbgaaW.PrintMore Go.Proofs.Ytfmfpofbefgbgaa.HPoolS Go.Proofs.Ytfmfpofbefgbgaa.HPool
set_option linter.unusedVariables false
set_option linter.unusedSimpArgs false
def r0 : RS := fun _ => ([], [])
def r1 : RS := (provR r0 1 5 2 64).1
def r2 : RS := (takeR r1 1).1
def r3 : RS := (takeR r2 1).1
def r4 : RS := (takeR r3 1).1
def r5 : RS := (giveR r4 1 6).1
theorem live_calls (w : World) : Calls Try.prog 28 #[] w fun e w' => e = .returned (.bool true) ∧ Below w.heap.size w w' := by
  have HQ := Aside0.mk (fun (w1 : World) (pb : Nat) (r : RS) (h : Tq w w1 pb r) => h)
  have a1 : (provR r0 1 5 2 64).2 = 0 := by decide
  have a2 : (takeR r1 1).2 = (5, 64, 0) := by decide
  have a3 : (takeR r2 1).2 = (6, 64, 0) := by decide
  have a4 : (takeR r3 1).2 = (0, 0, 6) := by decide
  have a5 : (giveR r4 1 6).2 = 0 := by decide
  have a6 : (takeR r5 1).2 = (6, 64, 0) := by decide
  have AA := Aside0.mk (And.intro a1 (And.intro a2 (And.intro a3 (And.intro a4 (And.intro a5 a6)))))
  clear a1 a2 a3 a4 a5 a6
  go_enter Try.func28, Try.ntmps28
  go_upto_region 2 with (go_at_call 29; refine (new_q _).mono ?_; rintro e w1 ⟨pb, rfl, hT, hB⟩; have H0 := Aside0.mk (show Tq w w1 pb r0 from hT); clear hT hB)
  go_upto_region 3 with (go_at_call 30; refine (provide_q H0.out 1 5 2 64).mono ?_; rintro e w2 ⟨rfl, hT, hK⟩; rw [AA.out.1]; have H1 := Aside0.mk (show Tq w w2 pb r1 from hT); clear hT hK H0)
  go_upto_region 4 with (go_at_call 31; refine (take_q H1.out 1).mono ?_; rintro e w3 ⟨rfl, hT, hK⟩; rw [AA.out.2.1]; have H2 := Aside0.mk (show Tq w w3 pb r2 from hT); clear hT hK H1)
  go_upto_region 5 with (go_at_call 31; refine (take_q H2.out 1).mono ?_; rintro e w4 ⟨rfl, hT, hK⟩; rw [AA.out.2.2.1]; have H3 := Aside0.mk (show Tq w w4 pb r3 from hT); clear hT hK H2)
  go_upto_region 6 with (go_at_call 31; refine (take_q H3.out 1).mono ?_; rintro e w5 ⟨rfl, hT, hK⟩; rw [AA.out.2.2.2.1]; have H4 := Aside0.mk (show Tq w w5 pb r4 from hT); clear hT hK H3)
  go_upto_region 7 with (go_at_call 33; refine (give_q H4.out 1 6 (by decide)).mono ?_; rintro e w6 ⟨rfl, hT, hK⟩; rw [AA.out.2.2.2.2.1]; have H5 := Aside0.mk (show Tq w w6 pb r5 from hT); clear hT hK H4)
  go_upto_region 8 with (go_at_call 31; refine (take_q H5.out 1).mono ?_; rintro e w7 ⟨rfl, hT, hK⟩; rw [AA.out.2.2.2.2.2]; have H6 := Aside0.mk hT.bl; clear hT hK H5)
  go_wp2_with (go_at_call 32; refine (code_calls _ _).mono ?_; rintro e w8 ⟨rfl, rfl⟩)
  go_ret
  exact ⟨rfl, H6.out⟩
end Go.Proofs.Ytfmfpofbefgbgaa.PPoolL
