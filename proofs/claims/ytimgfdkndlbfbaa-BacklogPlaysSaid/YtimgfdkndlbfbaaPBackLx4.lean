/- The law BacklogPlays, all its arguments: its function answers true. Conditions: each theorem's own. -/
import Derived.Test.YtimgfdkndlbfbaaPBackLx3
namespace Go.Proofs.Ytimgfdkndlbfbaa.PBackL
open Go.RowKit Go.Proofs.YtimgfdkndlbfbaaW.PrintWords Go.Proofs.YtimgfdkndlbfbaaW.PrintLast Go.Proofs.YtimgfdkndlbfbaaW.PrintMore Go.Proofs.Ytimgfdkndlbfbaa.HBk Go.Proofs.Ytimgfdkndlbfbaa.HBkR
set_option linter.unusedVariables false
set_option linter.unusedSimpArgs false
set_option maxRecDepth 100000 in
set_option maxHeartbeats 4000000 in
theorem plays_big (half ready : Int) (A1 : Option Addr) (n c1 : Nat) (w : World) (hn : 200 < n) :
    Calls Try.prog 6 #[.int .i64 half, .int .i64 ready, .slice A1 n c1] w fun e w' => e = .returned (.bool true) ∧ Below w.heap.size w w' := by
  have d0 : decide (200 < (n : Int)) = true := decide_eq_true (by omega)
  clear hn
  go_enter Try.func6, Try.ntmps6
  go_wp2_with (go_at_call 28; refine (live_calls _).mono ?_; rintro e w8 ⟨rfl, hB⟩; have HB := Aside0.mk hB; clear hB)
  go_ret
  exact ⟨rfl, HB.out⟩
set_option maxRecDepth 100000 in
set_option maxHeartbeats 4000000 in
theorem plays_bad (half ready : Int) (A1 : Option Addr) (n c1 : Nat) (w : World) (hn : n ≤ 200) (h : half < 1 ∨ ready < 1 ∨ 128 < half ∨ 128 < ready) :
    Calls Try.prog 6 #[.int .i64 half, .int .i64 ready, .slice A1 n c1] w fun e w' => e = .returned (.bool true) ∧ Below w.heap.size w w' := by
  have d0 : decide (200 < (n : Int)) = false := decide_eq_false (by omega)
  have HC := Aside0.mk (new_bad half ready w h)
  have hd : (decide (half < 1) = true) ∨ (decide (half < 1) = false ∧ decide (128 < half) = true) ∨ (decide (half < 1) = false ∧ decide (128 < half) = false ∧ decide (ready < 1) = true) ∨ (decide (half < 1) = false ∧ decide (128 < half) = false ∧ decide (ready < 1) = false ∧ decide (128 < ready) = true) := by
    simp only [decide_eq_true_eq, decide_eq_false_iff_not]
    omega
  clear hn h
  rcases hd with d1 | ⟨d1, d2⟩ | ⟨d1, d2, d3⟩ | ⟨d1, d2, d3, d4⟩
  all_goals
    go_enter Try.func6, Try.ntmps6
    go_wp2_with (first | (go_at_call 29; refine HC.out.mono ?_; rintro e w1 ⟨rfl, rfl⟩) | (go_at_call 30; refine (code_calls _ _).mono ?_; rintro e w9 ⟨rfl, rfl⟩) | (go_at_call 28; refine (live_calls _).mono ?_; rintro e w8 ⟨rfl, hB⟩; have HB := Aside0.mk hB; clear hB))
    go_ret
    exact ⟨rfl, HB.out⟩
theorem towropelaw23_BacklogPlays.calls (half ready : Int) (A1 : Option Addr) (n c1 : Nat) (w : World) (h : Acts w A1 n) :
    Calls Try.prog 6 #[.int .i64 half, .int .i64 ready, .slice A1 n c1] w fun e w' => e = .returned (.bool true) ∧ Below w.heap.size w w' := by
  by_cases hn : n ≤ 200
  · by_cases hg : half < 1 ∨ ready < 1 ∨ 128 < half ∨ 128 < ready
    · exact plays_bad half ready A1 n c1 w hn hg
    · exact plays_all half ready A1 n c1 w h hn (by omega) (by omega) (by omega) (by omega)
  · exact plays_big half ready A1 n c1 w (by omega)
end Go.Proofs.Ytimgfdkndlbfbaa.PBackL
