/- addr.number and addr.Last, for every text and every place in it ¦ every net. Conditions: each theorem's own. -/
import Derived.Test.YtcebnaknodghcaaDoorHExt
import Derived.Outline
import Derived.WalkSpells
import Derived.WalkLawsBesides
namespace Go.Proofs.YtcebnaknodghcaaDoor.HNum
open Go.RowKit Go.Proofs.YtcebnaknodghcaaDoorW.PrintWords Go.Proofs.YtcebnaknodghcaaDoorW.PrintLast Go.Proofs.YtcebnaknodghcaaDoorW.PrintMore
set_option linter.unusedVariables false
set_option linter.unusedSimpArgs false
/-- The number that stands from a place on, at most so great, and the place behind it. -/
def numF (s : ByteArray) (a : Nat) (most : Int) : Nat → Int → Nat → Int × Nat
  | 0, n, i => (n, i)
  | k + 1, n, i => if i < s.size then (if bt s (i : Int) < 48 ∨ 57 < bt s (i : Int) then (n, i) else if (a < i ∧ n = 0) ∨ most < 10 * n + (bt s (i : Int) - 48) then (n, i) else numF s a most k (10 * n + (bt s (i : Int) - 48)) (i + 1)) else (n, i)
theorem wid (n : Int) (h0 : -4611686018427387904 ≤ n) (h1 : n ≤ 4611686018427387904) : IntKind.i64.wrap n = n := by simp [IntKind.wrap, IntKind.bits, IntKind.signed]; omega
def num : Value → Nat
  | .int _ n => n.toNat
  | _ => 0
/-- What holds ahead of a round. -/
structure At (s : ByteArray) (a : Nat) (most : Int) (r : Int × Nat) (n : Int) (i : Nat) : Prop where
  n0 : 0 ≤ n
  n1 : n ≤ 1000
  lo : a ≤ i
  hi : i ≤ s.size
  run : numF s a most (s.size - i) n i = r
set_option maxRecDepth 100000 in
set_option maxHeartbeats 2000000 in
theorem number_calls (s : ByteArray) (a : Nat) (most : Int) (w : World) (hs : s.size ≤ 140737488355328) (ha : a ≤ s.size) (m0 : 0 ≤ most) (m1 : most ≤ 1000) :
    Calls Tryd.prog 68 #[.string s, .int .i64 a, .int .i64 most] w fun e w' => e = .returned (.tuple #[.int .i64 (numF s a most (s.size - a) 0 a).1, .int .i64 ((numF s a most (s.size - a) 0 a).2 : Nat), .bool (decide (a < (numF s a most (s.size - a) 0 a).2))]) ∧ w = w' := by
  generalize hr : numF s a most (s.size - a) 0 a = r
  have HH : Aside0 (At s a most r 0 a) := ⟨by omega, by omega, Nat.le_refl _, ha, hr⟩
  clear hr
  go_enter Tryd.func68, Tryd.ntmps68
  go_wp2
  go_step3
  go_wp2
  go_step3
  go_wp2
  go_loop [6, 7] (fun n nx => ∃ (N : Int) (i : Nat), n = .int .i64 N ∧ nx = .int .i64 (i : Nat) ∧ Aside0 (At s a most r N i)) (fun _ nx => s.size - num nx)
  case atStart => exact ⟨0, a, rfl, rfl, HH⟩
  case round =>
    (try clear HH)
    obtain ⟨N, i, rfl, rfl, ⟨n0, n1, lo, hi, hrun⟩⟩ := hrel
    by_cases h : i < s.size
    · have d0 : decide ((i : Int) < (s.size : Int)) = true := decide_eq_true (by omega)
      have d1 : decide (i < s.size) = true := decide_eq_true h
      have hx := bt_at s (i : Int)
      obtain ⟨b0, b1⟩ := bt_range s (i : Int)
      rw [show s.size - i = (s.size - (i + 1)) + 1 by omega] at hrun
      simp only [numF] at hrun
      rw [if_pos h] at hrun
      have e1 : IntKind.i64.wrap (10 * N) = 10 * N := wid _ (by omega) (by omega)
      have e4 : IntKind.i64.wrap ((i : Int) + 1) = (i : Int) + 1 := wid _ (by omega) (by omega)
      have hx2 : ((s[i]'h).toNat : Int) = bt s (i : Int) := by have := hx (by simpa using h); simpa using this
      clear hx
      generalize bt s (i : Int) = b at hx2 b0 b1 hrun
      by_cases c1 : b < 48
      · have q1 : decide (b < 48) = true := decide_eq_true c1
        rw [if_pos (.inl c1)] at hrun
        subst hrun
        clear c1
        go_wp2
        (try rw [Exit.noGoto_ret])
        go_ret3
        exact ⟨rfl, rfl⟩
      have q1 : decide (b < 48) = false := decide_eq_false c1
      by_cases c2 : 57 < b
      · have q2 : decide (57 < b) = true := decide_eq_true c2
        rw [if_pos (.inr c2)] at hrun
        subst hrun
        clear c1 c2
        go_wp2
        (try rw [Exit.noGoto_ret])
        go_ret3
        exact ⟨rfl, rfl⟩
      have q2 : decide (57 < b) = false := decide_eq_false c2
      have e2 : IntKind.u8.wrap (b - 48) = b - 48 := by simp [IntKind.wrap, IntKind.bits, IntKind.signed]; omega
      have e3 : IntKind.i64.wrap (b - 48) = b - 48 := wid _ (by omega) (by omega)
      have e5 : IntKind.i64.wrap (10 * N + (b - 48)) = 10 * N + (b - 48) := wid _ (by omega) (by omega)
      rw [if_neg (by omega)] at hrun
      by_cases c3 : a < i ∧ N = 0
      · have q3 : decide ((a : Int) < (i : Int)) = true := decide_eq_true (by omega)
        have q3' : decide (a < i) = true := decide_eq_true c3.1
        have q4 : (N == 0) = true := beq_iff_eq.2 c3.2
        rw [if_pos (.inl c3)] at hrun
        subst hrun
        clear c1 c2 c3
        go_wp2
        (try rw [Exit.noGoto_ret])
        go_ret3
        exact ⟨rfl, rfl⟩
      by_cases c4 : most < 10 * N + (b - 48)
      · rw [if_pos (.inr c4)] at hrun
        have q5 : decide (most < 10 * N + (b - 48)) = true := decide_eq_true c4
        subst hrun
        by_cases c5 : a < i
        · have q3 : decide ((a : Int) < (i : Int)) = true := decide_eq_true (by omega)
          have q3' : decide (a < i) = true := decide_eq_true c5
          have q4 : (N == 0) = false := beq_eq_false_iff_ne.2 (fun hz => c3 ⟨c5, hz⟩)
          clear c1 c2 c3 c4 c5
          go_wp2
          (try rw [Exit.noGoto_ret])
          go_ret3
          exact ⟨rfl, rfl⟩
        · have q3 : decide ((a : Int) < (i : Int)) = false := decide_eq_false (by omega)
          have q3' : decide (a < i) = false := decide_eq_false c5
          clear c1 c2 c3 c4 c5
          go_wp2
          (try rw [Exit.noGoto_ret])
          go_ret3
          exact ⟨rfl, rfl⟩
      have q5 : decide (most < 10 * N + (b - 48)) = false := decide_eq_false c4
      rw [if_neg (by rintro (h1 | h1); exact c3 h1; exact c4 h1)] at hrun
      have HH : Aside0 (At s a most r (10 * N + (b - 48)) (i + 1)) := ⟨by omega, by omega, by omega, by omega, hrun⟩
      have HI := Aside0.mk h
      by_cases c5 : a < i
      · have q3 : decide ((a : Int) < (i : Int)) = true := decide_eq_true (by omega)
        have q3' : decide (a < i) = true := decide_eq_true c5
        have q4 : (N == 0) = false := beq_eq_false_iff_ne.2 (fun hz => c3 ⟨c5, hz⟩)
        clear c1 c2 c3 c4 c5 hrun
        go_wp2
        go_round
        case rel => exact ⟨_, i + 1, rfl, by go_num, HH⟩
        case measure => have := HI.out; simp only [num]; omega
      · have q3 : decide ((a : Int) < (i : Int)) = false := decide_eq_false (by omega)
        have q3' : decide (a < i) = false := decide_eq_false c5
        clear c1 c2 c3 c4 c5 hrun
        go_wp2
        go_round
        case rel => exact ⟨_, i + 1, rfl, by go_num, HH⟩
        case measure => have := HI.out; simp only [num]; omega
    · obtain rfl : i = s.size := by omega
      have d0 : decide ((s.size : Int) < (s.size : Int)) = false := decide_eq_false (by omega)
      have d1 : decide (s.size < s.size) = false := decide_eq_false (by omega)
      rw [Nat.sub_self] at hrun
      simp only [numF] at hrun
      subst hrun
      clear h
      go_wp2
      (try rw [Exit.noGoto_ret])
      go_ret3
      exact ⟨rfl, rfl⟩
end Go.Proofs.YtcebnaknodghcaaDoor.HNum
