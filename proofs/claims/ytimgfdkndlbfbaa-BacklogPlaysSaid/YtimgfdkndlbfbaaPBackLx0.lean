/- The laws of backlog: live. Conditions: each theorem's own. -/
import Derived.Test.YtimgfdkndlbfbaaHBk5
namespace Go.Proofs.Ytimgfdkndlbfbaa.PBackL
open Go.RowKit Go.Proofs.YtimgfdkndlbfbaaW.PrintWords Go.Proofs.YtimgfdkndlbfbaaW.PrintLast Go.Proofs.YtimgfdkndlbfbaaW.PrintMore Go.Proofs.Ytimgfdkndlbfbaa.HBk
set_option linter.unusedVariables false
set_option linter.unusedSimpArgs false
/-- A log of the law's own, and the world below it as it was. -/
structure At (w0 w : World) (b : Nat) (s : LS) (vh vr : Value) : Prop where
  lg : Lg w0.heap.size w b s vh vr
  bl : Below w0.heap.size w0 w
theorem At.move {w0 w w' : World} {b : Nat} {s s' : LS} {vh vr vh' vr' : Value} (h : At w0 w b s vh vr) (hL : Lg w0.heap.size w' b s' vh' vr') (hM : Mv w w' b vh vr vh' vr') : At w0 w' b s' vh' vr' := by
  refine ⟨hL, hM.os.trans h.bl.os, hM.tape.trans h.bl.tape, hM.output.trans h.bl.output, Nat.le_trans h.bl.size hM.size, fun k hk => (hM.old k (Nat.lt_of_lt_of_le hk h.bl.size) ?_ (fun e => ?_) (fun e => ?_)).trans (h.bl.block k hk)⟩
  · have := h.lg.lo; omega
  · have := (h.lg.hs.low k e).1; omega
  · have := (h.lg.rs.low k e).1; omega
theorem At.below {w0 w w' : World} {b : Nat} {s : LS} {vh vr : Value} (h : At w0 w b s vh vr) (hb : Below w.heap.size w w') : At w0 w' b s vh vr := ⟨h.lg.below hb, below_step h.bl hb⟩
theorem At.size {w0 w : World} {b : Nat} {s : LS} {vh vr : Value} (h : At w0 w b s vh vr) : w0.heap.size ≤ w.heap.size := h.bl.size
set_option maxRecDepth 100000 in
set_option maxHeartbeats 4000000 in
theorem live_calls (w : World) : Calls Try.prog 28 #[] w fun e w' => e = .returned (.bool true) ∧ Below w.heap.size w w' := by
  go_enter Try.func28, Try.ntmps28
  go_wp2_with (first | (go_at_call 29; refine (new_good 2 1 _ (by decide) (by decide) (by decide) (by decide)).mono ?_; rintro e w1 ⟨b, rfl, hL, hB⟩; have L := Aside0.mk (At.mk hL hB); clear hL hB) | (go_at_call 31; have hh := add_in L.out.lg L.out.size 5 (by decide) (by decide) (by decide) (by decide) (by decide) (by decide) (by decide); with_reducible refine hh.mono ?_; clear hh; rintro e w2 ⟨rfl, vh2, hL, hM⟩; replace L := Aside0.mk (L.out.move hL hM); clear hL hM) | (go_at_call 31; have hh := add_in L.out.lg L.out.size 6 (by decide) (by decide) (by decide) (by decide) (by decide) (by decide) (by decide); with_reducible refine hh.mono ?_; clear hh; rintro e w3 ⟨rfl, vh3, hL, hM⟩; replace L := Aside0.mk (L.out.move hL hM); clear hL hM) | (go_at_call 31; have hh := add_full L.out.lg 7 (by decide) (by decide) (by decide) (by decide) (by decide); with_reducible refine hh.mono ?_; clear hh; rintro e w4 ⟨rfl, hL, hM⟩; replace L := Aside0.mk (L.out.move hL hM); clear hL hM) | (go_at_call 33; have hh := ready_some L.out.lg L.out.size 6 (by decide) (by decide) (by decide); with_reducible refine hh.mono ?_; clear hh; rintro e w5 ⟨rfl, vh5, vr5, hL, hM⟩; replace L := Aside0.mk (L.out.move hL hM); clear hL hM) | (go_at_call 33; have hh := ready_some L.out.lg L.out.size 5 (by decide) (by decide) (by decide); with_reducible refine hh.mono ?_; clear hh; rintro e w6 ⟨rfl, vh6, vr6, hL, hM⟩; replace L := Aside0.mk (L.out.move hL hM); clear hL hM) | (go_at_call 37; have hh := take_some L.out.lg 6 [5] (by rfl) (by decide) (by decide); with_reducible refine hh.mono ?_; clear hh; rintro e w7 ⟨rfl, vr7, hL, hM⟩; replace L := Aside0.mk (L.out.move hL hM); clear hL hM) | (go_at_call 30; refine (code_calls _ _).mono ?_; rintro e w9 ⟨rfl, rfl⟩))
  go_ret
  exact ⟨rfl, L.out.bl⟩
end Go.Proofs.Ytimgfdkndlbfbaa.PBackL
