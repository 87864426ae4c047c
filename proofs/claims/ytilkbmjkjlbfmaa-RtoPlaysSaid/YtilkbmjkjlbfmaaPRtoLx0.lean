/- The laws of rto: RtoSteady's function, and what it plays with. Conditions: each theorem's own. -/
import Derived.Test.YtilkbmjkjlbfmaaHRto
import Derived.StillTailTactics
import Derived.Outline
import Derived.WalkSpells
import Derived.WalkLawsBesides
namespace Go.Proofs.Ytilkbmjkjlbfmaa.PRtoL
open Go.RowKit Go.Proofs.YtilkbmjkjlbfmaaW.PrintWords Go.Proofs.YtilkbmjkjlbfmaaW.PrintLast Go.Proofs.YtilkbmjkjlbfmaaW.PrintMore Go.Proofs.Ytilkbmjkjlbfmaa.HRto
set_option linter.unusedVariables false
set_option linter.unusedSimpArgs false
set_option maxRecDepth 100000 in
set_option maxHeartbeats 8000000 in
theorem live_calls (w : World) : Calls Try.prog 17 #[] w fun e w' => e = .returned (.bool true) ∧ Below w.heap.size w w' := by
  go_enter Try.func17, Try.ntmps17
  go_upto_region 2 with (go_at_call 18; refine (new_calls 2 100 10 w (by omega)).mono ?_; rintro e w1 ⟨b, rfl, hb, hI, hB⟩; have HI := Aside0.mk hI; have HB := Aside0.mk hB; have Hb := Aside0.mk hb; clear hI hB hb)
  have HS := Aside0.mk (sample_calls b 2 100 8 ⟨0, 0, false, 10, 0⟩ w1 HI.out (by decide) (by decide) (by decide) (by decide) (by decide) (by decide) (by decide))
  rw [show S1 2 100 ⟨0, 0, false, 10, 0⟩ 8 = ⟨64, 16, true, 24, 0⟩ from rfl] at HS
  go_upto_region 5 with (first | (go_at_call 20; refine (code_calls _ _).mono ?_; rintro e w' ⟨rfl, rfl⟩) | (go_at_call 24; refine HS.out.mono ?_; rintro e w2 ⟨⟨v, rfl⟩, hI2, hK2⟩; have HI2 := Aside0.mk hI2; have HK2 := Aside0.mk hK2; clear hI2 hK2))
  have HN := Aside0.mk (now_calls b 2 100 _ w2 HI2.out)
  have HT := Aside0.mk (back_calls b 2 100 _ w2 HI2.out (by decide) (by decide) (by decide) (by decide) (by decide) (by decide))
  clear HS HI
  go_upto_region 7 with (first | (go_at_call 21; refine HN.out.mono ?_; rintro e w' ⟨rfl, rfl⟩) | (go_at_call 22; refine HT.out.mono ?_; rintro e w3 ⟨⟨v3, rfl⟩, hI3, hK3⟩; have HI3 := Aside0.mk hI3; have HK3 := Aside0.mk hK3; clear hI3 hK3))
  have HN3 := Aside0.mk (now_calls b 2 100 _ w3 HI3.out)
  clear HT HI2 HN
  go_wp2_with (go_at_call 21; refine HN3.out.mono ?_; rintro e w' ⟨rfl, rfl⟩)
  go_ret
  exact ⟨rfl, (HB.out.trans (HK2.out.below (by rw [Hb.out]; exact Nat.le_refl _) HB.out.size)).trans (HK3.out.below (by rw [Hb.out]; exact Nat.le_refl _) (Nat.le_trans HB.out.size HK2.out.2.1))⟩
/-- Four times how much it is off, behind samples that are the same. -/
def vIt : Nat → Int → Int
  | 0, x => x
  | k + 1, x => vIt k x - vIt k x / 4
theorem vIt_mono {x y : Int} (h : x ≤ y) : ∀ k, vIt k x ≤ vIt k y
  | 0 => h
  | k + 1 => by have := vIt_mono h k; simp only [vIt]; omega
theorem vIt_pos {x : Int} (h : 0 ≤ x) : ∀ k, 0 ≤ vIt k x
  | 0 => h
  | k + 1 => by have := vIt_pos h k; simp only [vIt]; omega
theorem vIt_le {x : Int} (h : 0 ≤ x) : ∀ k, vIt k x ≤ x
  | 0 => Int.le_refl _
  | k + 1 => by have := vIt_pos h k; have := vIt_le h k; simp only [vIt]; omega
theorem vIt_end {x : Int} (h : x ≤ 131070) : vIt 59 x ≤ 3 := Int.le_trans (vIt_mono h 59) (by decide +kernel)
/-- What n samples of t make. -/
def After (t : Int) (n : Int) (s : St) : Prop :=
  s.bk = 0 ∧ 0 ≤ s.m ∧ s.m ≤ 8388608 ∧ 0 ≤ s.v ∧ s.v ≤ 4194304 ∧ (n = 0 ∧ s = ⟨0, 0, false, 5, 0⟩ ∨ ∃ k : Nat, n = k + 1 ∧ s.k = true ∧ s.m = 8 * t ∧ s.v = vIt k (2 * t) ∧ s.now = t + (if s.v < 1 then 1 else s.v))
theorem After.step {t n : Int} {s : St} (t0 : 0 ≤ t) (t1 : t ≤ 65535) (h : After t n s) : After t (n + 1) (S1 1 1073741824 s t) := by
  have e0 : ¬ t < 0 := by omega
  have e1 : ¬ 1048576 < t := by omega
  obtain ⟨hb, hm0, hm1, hv0, hv1, ⟨rfl, rfl⟩ | ⟨k, rfl, hk, hm, hv, hn⟩⟩ := h
  · refine ⟨rfl, ?_, ?_, ?_, ?_, .inr ⟨0, rfl, rfl, ?_, ?_, ?_⟩⟩
    all_goals simp only [S1, if_neg e0, if_neg e1, Bool.false_eq_true, if_false, vIt]
    all_goals first | omega | (rw [show 8 * t / 8 = t by omega]; (repeat' split) <;> omega)
  · have p0 := vIt_pos (x := 2 * t) (by omega) k
    have p1 := vIt_le (x := 2 * t) (by omega) k
    refine ⟨rfl, ?_, ?_, ?_, ?_, .inr ⟨k + 1, rfl, rfl, ?_, ?_, ?_⟩⟩
    all_goals simp only [S1, if_neg e0, if_neg e1, hk, if_true, vIt, hm, hv, show 8 * t / 8 = t by omega, show t - t = 0 by omega, show ¬ ((0 : Int) < 0) by omega, if_false, show 8 * t + 0 = 8 * t by omega]
    all_goals (repeat' split) <;> omega
def num : Value → Nat
  | .int _ n => n.toNat
  | _ => 0
/-- RtoSteady answers true, for every whole number of 16 bits. -/
def towropelaw20_RtoSteady.f (a0 : Int) : Option Bool := if 0 ≤ a0 ∧ a0 ≤ 65535 then some true else none
set_option maxRecDepth 100000 in
set_option maxHeartbeats 8000000 in
theorem towropelaw20_RtoSteady.calls (a0 : Int) (r : Bool) (w : World) (h : towropelaw20_RtoSteady.f a0 = some r) :
    Calls Try.prog 5 #[.int .u16 a0] w fun e w' => e = .returned (.bool r) ∧ Below w.heap.size w w' := by
  unfold towropelaw20_RtoSteady.f at h
  split at h
  case isFalse => cases h
  case isTrue ha =>
  obtain ⟨t0, t1⟩ := ha
  cases h
  have e0 : IntKind.i64.wrap a0 = a0 := wid _ (by omega) (by omega)
  go_enter Try.func5, Try.ntmps5
  go_upto_region 2 with (go_at_call 18; refine (new_calls 1 1073741824 5 w (by omega)).mono ?_; rintro e w1 ⟨b, rfl, hb, hI, hB⟩; have HI := Aside0.mk hI; have HB := Aside0.mk hB; have Hb := Aside0.mk hb; clear hI hB hb)
  go_upto_block 0 with (go_at_call 20; refine (code_calls _ _).mono ?_; rintro e w' ⟨rfl, rfl⟩)
  have HH : Aside0 ((0 : Int) ≤ 0 ∧ (0 : Int) ≤ 60 ∧ ∃ s, After a0 0 s ∧ Is w1 b 1 1073741824 s ∧ Below w.heap.size w w1) := ⟨by omega, by omega, _, ⟨rfl, by decide, by decide, by decide, by decide, .inl ⟨rfl, rfl⟩⟩, HI.out, HB.out⟩
  clear HI HB
  go_wp2
  go_loopw [5] (fun o wr => ∃ n, o = .int .i64 n ∧ Aside0 (0 ≤ n ∧ n ≤ 60 ∧ ∃ s, After a0 n s ∧ Is wr b 1 1073741824 s ∧ Below w.heap.size w wr)) (fun o _ => 60 - num o)
  case atStart => exact ⟨0, rfl, HH⟩
  case round =>
    (try clear HH)
    obtain ⟨n, rfl, ⟨n0, n1, s, hA, hI, hB⟩⟩ := hrel
    have hA' := hA
    obtain ⟨hb, hm0, hm1, hv0, hv1, hR⟩ := hA'
    by_cases c : n < 60
    · have c1 : decide (n < 60) = true := decide_eq_true c
      have e1 : IntKind.i64.wrap (n + 1) = n + 1 := wid _ (by omega) (by omega)
      have HS := Aside0.mk (sample_calls b 1 1073741824 a0 s _ hI hm0 hm1 hv0 hv1 (by decide) (by decide) (by decide))
      have HA := Aside0.mk (hA.step t0 t1)
      have HB := Aside0.mk hB
      have HC := Aside0.mk c
      clear hA hI hB hb hR c
      go_wp2_with (go_at_call 24; refine HS.out.mono ?_; rintro e w2 ⟨⟨v, rfl⟩, hI2, hK2⟩; have HI2 := Aside0.mk hI2; have HK2 := Aside0.mk hK2; clear hI2 hK2)
      go_roundw
      case rel => exact ⟨n + 1, rfl, ⟨by omega, by have := HC.out; omega, _, HA.out, HI2.out, HB.out.trans (HK2.out.below (by rw [Hb.out]; exact Nat.le_refl _) HB.out.size)⟩⟩
      case measure => simp only [num]; have := HC.out; omega
    · have c1 : decide (n < 60) = false := decide_eq_false c
      obtain rfl : n = 60 := by omega
      obtain ⟨hn, -⟩ | ⟨k, hk, hkk, hm, hv, hnow⟩ := hR
      · omega
      obtain rfl : k = 59 := by omega
      have hve : s.v ≤ 3 := by rw [hv]; exact vIt_end (by omega)
      have HSm := Aside0.mk (smooth_calls b 1 1073741824 s _ hI hm0 hm1 hv0 hv1)
      have HB := Aside0.mk hB
      have HI := Aside0.mk hI
      have q1 : s.m / 8 = a0 := by omega
      have q2 : decide (s.v / 4 < 4) = true := decide_eq_true (by omega)
      have q3 : decide (s.now ≤ a0 + 16) = true := decide_eq_true (by rw [hnow]; split <;> omega)
      have q4 : IntKind.i64.wrap (a0 + 16) = a0 + 16 := wid _ (by omega) (by omega)
      clear hA hI hB hb c hm0 hm1 hv0 hv1 hkk hm hv hnow hve
      go_upto_region 9 with (go_at_call 26; refine HSm.out.mono ?_; rintro e w' ⟨rfl, n', rfl⟩)
      go_upto_region 13 with (first | (go_at_call 24; refine (sample_nil 3 _).mono ?_; rintro e w' ⟨⟨v1, rfl⟩, rfl⟩) | (go_at_call 22; refine (back_nil _).mono ?_; rintro e w' ⟨⟨v2, rfl⟩, rfl⟩) | (go_at_call 26; refine (smooth_nil _).mono ?_; rintro e w' ⟨rfl, rfl⟩))
      have HN := Aside0.mk (fun w' (h : Is w' b 1 1073741824 s) => now_calls b 1 1073741824 s w' h)
      go_wp2_with (first | (go_at_call 21; refine (now_nil _).mono ?_; rintro e w' ⟨rfl, rfl⟩) | (go_at_call 21; refine Calls.mono (HN.out _ (by exact HI.out)) ?_; rintro e w' ⟨rfl, rfl⟩) | (go_at_call 27; refine (backs_nil _).mono ?_; rintro e w' ⟨rfl, rfl⟩) | (go_at_call 17; refine (live_calls _).mono ?_; rintro e w' ⟨rfl, hL⟩; have HL := Aside0.mk hL; clear hL))
      go_ret
      exact ⟨rfl, (pw_below_drewN HB.out _).trans (HL.out.mono HB.out.size)⟩
end Go.Proofs.Ytilkbmjkjlbfmaa.PRtoL
