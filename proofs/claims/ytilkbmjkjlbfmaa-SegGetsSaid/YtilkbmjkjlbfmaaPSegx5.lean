-- Laid by a program of this session (wip/tools/mk.py) over the kit's print: functions, contracts, walks; not written by hand, not trusted: Lean checks it.
import Derived.Test.YtilkbmjkjlbfmaaPSegx0
namespace Go.Proofs.Ytilkbmjkjlbfmaa.PSeg
open Go.RowKit Go.Proofs.YtilkbmjkjlbfmaaW.PrintWords Go.Proofs.YtilkbmjkjlbfmaaW.PrintLast Go.Proofs.YtilkbmjkjlbfmaaW.PrintMore
attribute [local go_sem] max2_int min2_int max_two min_two max_three min_three max_four min_four   -- for this text's walks alone
set_option linter.unusedVariables false
set_option linter.unusedSimpArgs false

/-! ### towroperef09_Read: function 40 -/
mutual
def towroperef09_Read.l0 : Nat → List Int → Int → Int → Int → Option (Int × Int × Int)
  | 0, _, _, _, _ => none
  | k + 1, x0, x5, x6, x7 => if x7 < (x0.length : Int) then (if 0 ≤ x7 then (if (rd x0 x7) = 0 then (some (x5, x6, 0)) else (if (rd x0 x7) = 1 then (towroperef09_Read.l0 k x0 x5 x6 (wrap64 (x7 + 1))) else (if (wrap64 (x7 + 1)) ≥ (x0.length : Int) then (some (0, 0, 3)) else (if 0 ≤ (wrap64 (x7 + 1)) then (if (wrap64 (x7 + 1)) < (x0.length : Int) then (if (wrap64 (rd x0 (wrap64 (x7 + 1)))) < 2 then (towroperef09_Read.j1 k x0 x5 x6 x7 (wrap64 (rd x0 (wrap64 (x7 + 1)))) true) else (if (wrap64 (rd x0 (wrap64 (x7 + 1)))) > (wrap64 ((x0.length : Int) - x7)) then (towroperef09_Read.j1 k x0 x5 x6 x7 (wrap64 (rd x0 (wrap64 (x7 + 1)))) true) else (if (rd x0 x7) = 2 then (if (wrap64 (rd x0 (wrap64 (x7 + 1)))) = 4 then (if (rd x0 x7) = 3 then (towroperef09_Read.j1 k x0 x5 x6 x7 (wrap64 (rd x0 (wrap64 (x7 + 1)))) ((wrap64 (rd x0 (wrap64 (x7 + 1)))) != 3)) else (towroperef09_Read.j1 k x0 x5 x6 x7 (wrap64 (rd x0 (wrap64 (x7 + 1)))) false)) else (towroperef09_Read.j1 k x0 x5 x6 x7 (wrap64 (rd x0 (wrap64 (x7 + 1)))) true)) else (if (rd x0 x7) = 3 then (towroperef09_Read.j1 k x0 x5 x6 x7 (wrap64 (rd x0 (wrap64 (x7 + 1)))) ((wrap64 (rd x0 (wrap64 (x7 + 1)))) != 3)) else (towroperef09_Read.j1 k x0 x5 x6 x7 (wrap64 (rd x0 (wrap64 (x7 + 1)))) false))))) else (none)) else (none))))) else (none)) else (some (x5, x6, 0))
def towroperef09_Read.j1 : Nat → List Int → Int → Int → Int → Int → Bool → Option (Int × Int × Int)
  | 0, _, _, _, _, _, _ => none
  | k + 1, x0, x5, x6, x7, x8, x69 => if x69 = true then (some (0, 0, 3)) else (if 0 ≤ x7 then (if x7 < (x0.length : Int) then (if (rd x0 x7) = 2 then (if 0 ≤ (wrap64 (x7 + 2)) then (if (wrap64 (x7 + 2)) < (x0.length : Int) then (if 0 ≤ (wrap64 (x7 + 3)) then (if (wrap64 (x7 + 3)) < (x0.length : Int) then (towroperef09_Read.j2 k x0 (wrap64 ((wrap64 (256 * (wrap64 (rd x0 (wrap64 (x7 + 2)))))) + (wrap64 (rd x0 (wrap64 (x7 + 3)))))) x6 x7 x8) else (none)) else (none)) else (none)) else (none)) else (towroperef09_Read.j2 k x0 x5 x6 x7 x8)) else (none)) else (none))
def towroperef09_Read.j2 : Nat → List Int → Int → Int → Int → Int → Option (Int × Int × Int)
  | 0, _, _, _, _, _ => none
  | k + 1, x0, x5, x6, x7, x8 => if 0 ≤ x7 then (if x7 < (x0.length : Int) then (if (rd x0 x7) = 3 then (if 0 ≤ (wrap64 (x7 + 2)) then (if (wrap64 (x7 + 2)) < (x0.length : Int) then (if (wrap64 (1 + (wrap64 (rd x0 (wrap64 (x7 + 2)))))) > 15 then (towroperef09_Read.l0 k x0 x5 15 (wrap64 (x7 + x8))) else (towroperef09_Read.l0 k x0 x5 (wrap64 (1 + (wrap64 (rd x0 (wrap64 (x7 + 2)))))) (wrap64 (x7 + x8)))) else (none)) else (none)) else (towroperef09_Read.l0 k x0 x5 x6 (wrap64 (x7 + x8)))) else (none)) else (none)
end
def towroperef09_Read.f (k : Nat) (l0 : List Int) : Option (Int × Int × Int) := towroperef09_Read.l0 k l0 0 0 0
theorem towroperef09_Read.mono_l : ∀ k, (∀ y0 y1 y2 y3, LeO (towroperef09_Read.l0 k y0 y1 y2 y3) (towroperef09_Read.l0 (k + 1) y0 y1 y2 y3)) ∧ (∀ y0 y1 y2 y3 y4 y5, LeO (towroperef09_Read.j1 k y0 y1 y2 y3 y4 y5) (towroperef09_Read.j1 (k + 1) y0 y1 y2 y3 y4 y5)) ∧ (∀ y0 y1 y2 y3 y4, LeO (towroperef09_Read.j2 k y0 y1 y2 y3 y4) (towroperef09_Read.j2 (k + 1) y0 y1 y2 y3 y4))
  | 0 => ⟨fun _ _ _ _ r h => by simp [towroperef09_Read.l0] at h, fun _ _ _ _ _ _ r h => by simp [towroperef09_Read.j1] at h, fun _ _ _ _ _ r h => by simp [towroperef09_Read.j2] at h⟩
  | k + 1 => by
    obtain ⟨ih0, ih1, ih2⟩ := towroperef09_Read.mono_l k
    refine ⟨?_, ?_, ?_⟩
    · intro y0 y1 y2 y3
      unfold towroperef09_Read.l0
      repeat' first
      | (with_reducible exact ih0 _ _ _ _)
      | (with_reducible exact ih1 _ _ _ _ _ _)
      | (with_reducible exact ih2 _ _ _ _ _)
      | (with_reducible exact LeO.refl _)
      | (with_reducible exact LeO.none _)
      | (with_reducible refine LeO.ite ?_ ?_)
      | (with_reducible refine LeO.bind ?_ (fun _ => ?_))
      | exact ih0 _ _ _ _
      | exact ih1 _ _ _ _ _ _
      | exact ih2 _ _ _ _ _
      | exact LeO.none _
      | refine LeO.ite ?_ ?_
      | refine LeO.bind ?_ (fun _ => ?_)
    · intro y0 y1 y2 y3 y4 y5
      unfold towroperef09_Read.j1
      repeat' first
      | (with_reducible exact ih0 _ _ _ _)
      | (with_reducible exact ih1 _ _ _ _ _ _)
      | (with_reducible exact ih2 _ _ _ _ _)
      | (with_reducible exact LeO.refl _)
      | (with_reducible exact LeO.none _)
      | (with_reducible refine LeO.ite ?_ ?_)
      | (with_reducible refine LeO.bind ?_ (fun _ => ?_))
      | exact ih0 _ _ _ _
      | exact ih1 _ _ _ _ _ _
      | exact ih2 _ _ _ _ _
      | exact LeO.none _
      | refine LeO.ite ?_ ?_
      | refine LeO.bind ?_ (fun _ => ?_)
    · intro y0 y1 y2 y3 y4
      unfold towroperef09_Read.j2
      repeat' first
      | (with_reducible exact ih0 _ _ _ _)
      | (with_reducible exact ih1 _ _ _ _ _ _)
      | (with_reducible exact ih2 _ _ _ _ _)
      | (with_reducible exact LeO.refl _)
      | (with_reducible exact LeO.none _)
      | (with_reducible refine LeO.ite ?_ ?_)
      | (with_reducible refine LeO.bind ?_ (fun _ => ?_))
      | exact ih0 _ _ _ _
      | exact ih1 _ _ _ _ _ _
      | exact ih2 _ _ _ _ _
      | exact LeO.none _
      | refine LeO.ite ?_ ?_
      | refine LeO.bind ?_ (fun _ => ?_)
theorem towroperef09_Read.mono : ∀ a0 k, LeO (towroperef09_Read.f k a0) (towroperef09_Read.f (k + 1) a0) := by
  intro a0 k
  obtain ⟨ih0, ih1, ih2⟩ := towroperef09_Read.mono_l k
  unfold towroperef09_Read.f
  repeat' first
      | (with_reducible exact ih0 _ _ _ _)
      | (with_reducible exact ih1 _ _ _ _ _ _)
      | (with_reducible exact ih2 _ _ _ _ _)
      | (with_reducible exact LeO.refl _)
      | (with_reducible exact LeO.none _)
      | (with_reducible refine LeO.ite ?_ ?_)
      | (with_reducible refine LeO.bind ?_ (fun _ => ?_))
      | exact ih0 _ _ _ _
      | exact ih1 _ _ _ _ _ _
      | exact ih2 _ _ _ _ _
      | exact LeO.none _
      | refine LeO.ite ?_ ?_
      | refine LeO.bind ?_ (fun _ => ?_)
set_option maxHeartbeats 8000000 in
set_option maxRecDepth 100000 in
theorem towroperef09_Read.calls (k : Nat) (A0 : Option Addr) (c0 : Nat) (l0 : List Int) (r1 : Int) (r2 : Int) (r3 : Int) (w : World) (hr0 : Kd.C (Kd.int .u8) w A0 l0.length l0) (hc0 : l0.length ≤ c0) (h : towroperef09_Read.f k l0 = some (r1, r2, r3)) :
    Calls Try.prog 40 #[.slice A0 l0.length c0] w fun e w' => e = .returned (.tuple #[.int .i64 r1, .int .i64 r2, .int .i64 r3]) ∧ Drawn0 w w' := by
  have HR0 := Aside0.mk hr0
  have HC0 := Aside0.mk hc0
  clear hr0 hc0
  have H : (towroperef09_Read.l0 k l0 0 0 0) = some (r1, r2, r3) := h
  clear h
  have H' := Aside0.mk H
  clear H
  go_enter Try.func40, Try.ntmps40
  go_wp2
  repeat (go_quiet (fail); try go_wp2)
  go_loopg [5, 6, 7] k (fun kq v5 v6 v7 w' => ∃ (x5_1 : Int) (x6_1 : Int) (x7_1 : Int), v5 = .int .i64 x5_1 ∧ v6 = .int .i64 x6_1 ∧ v7 = .int .i64 x7_1 ∧ Aside0 (towroperef09_Read.l0 kq l0 x5_1 x6_1 x7_1 = some (r1, r2, r3)) ∧ Aside0 (kq ≤ k) ∧ Drawn0 w w')
  case atStart => exact ⟨(0), (0), (0), (by first | rfl | (simp; done) | (simp [*]; done)), (by first | rfl | (simp; done) | (simp [*]; done)), (by first | rfl | (simp; done) | (simp [*]; done)), H', ⟨Nat.le_refl _⟩, by repeat (first | exact Drawn0.refl _ | apply Drawn0.step)⟩
  case round =>
    clear H'
    obtain ⟨x5_1, x6_1, x7_1, rfl, rfl, rfl, HA, HK1, ⟨m1, rfl⟩⟩ := hrel
    cases gk with
    | zero => exact absurd HA.out (by simp [towroperef09_Read.l0])
    | succ k1 =>
      have H := HA.out
      clear HA
      simp only [towroperef09_Read.l0] at H
      by_cases c2 : x7_1 < (l0.length : Int)
      · rw [if_pos c2] at H
        have c2b0 : decide (x7_1 < (l0.length : Int)) = true := decide_eq_true c2
        clear c2
        by_cases c3 : 0 ≤ x7_1
        · rw [if_pos c3] at H
          have c3b0 : decide (0 ≤ x7_1) = true := decide_eq_true c3
          clear c3
          by_cases c4 : (rd l0 x7_1) = 0
          · rw [if_pos c4] at H
            have c4b0 : ((rd l0 x7_1) == 0) = true := beq_iff_eq.mpr c4
            have c4b1 : ((rd l0 x7_1) != 0) = false := bne_eq_false_iff_eq.mpr c4
            clear c4
            simp only [Option.some.injEq, Prod.mk.injEq] at H
            obtain ⟨rfl, rfl, rfl⟩ := H
            have p161 : 0 ≤ (x7_1 : Int) := of_decide_eq_true (by first | (with_reducible assumption) | assumption)
            have q161 : x7_1 < (l0.length : Int) := of_decide_eq_true (by first | (with_reducible assumption) | assumption)
            obtain ⟨ad161, e161, hx161_0⟩ := Kd.at_int HR0.out x7_1 p161 q161
            cases e161
            replace p161 := eq_true p161
            replace q161 := eq_true q161
            go_wp2
            repeat (go_quiet (fail); try go_wp2)
            go_ret3
            exact ⟨by first | rfl | (simp; done) | (simp [*]; done), by repeat (first | exact Drawn0.refl _ | apply Drawn0.step)⟩
          · rw [if_neg c4] at H
            have c4b0 : ((rd l0 x7_1) == 0) = false := beq_eq_false_iff_ne.mpr c4
            have c4b1 : ((rd l0 x7_1) != 0) = true := bne_iff_ne.mpr c4
            by_cases c5 : (rd l0 x7_1) = 1
            · rw [if_pos c5] at H
              have c5b0 : ((rd l0 x7_1) == 1) = true := beq_iff_eq.mpr c5
              have c5b1 : ((rd l0 x7_1) != 1) = false := bne_eq_false_iff_eq.mpr c5
              clear c5
              have H' := Aside0.mk H
              clear H
              have p161 : 0 ≤ (x7_1 : Int) := of_decide_eq_true (by first | (with_reducible assumption) | assumption)
              have q161 : x7_1 < (l0.length : Int) := of_decide_eq_true (by first | (with_reducible assumption) | assumption)
              obtain ⟨ad161, e161, hx161_0⟩ := Kd.at_int HR0.out x7_1 p161 q161
              cases e161
              replace p161 := eq_true p161
              replace q161 := eq_true q161
              have p162 : 0 ≤ (x7_1 : Int) := of_decide_eq_true (by first | (with_reducible assumption) | assumption)
              have q162 : x7_1 < (l0.length : Int) := of_decide_eq_true (by first | (with_reducible assumption) | assumption)
              obtain ⟨ad162, e162, hx162_0⟩ := Kd.at_int HR0.out x7_1 p162 q162
              obtain rfl : ad161 = ad162 := (by injection e162)
              replace p162 := eq_true p162
              replace q162 := eq_true q162
              go_wp2
              repeat (go_quiet (fail); try go_wp2)
              go_roundg k1
              case measure => have := HK1.out; omega
              case rel => exact ⟨(x5_1), (x6_1), (wrap64 (x7_1 + 1)), (by first | rfl | (simp; done) | (simp [*]; done)), (by first | rfl | (simp; done) | (simp [*]; done)), (by first | rfl | (simp; done) | (simp [*]; done)), H', ⟨by have := HK1.out; omega⟩, by repeat (first | exact Drawn0.refl _ | apply Drawn0.step)⟩
            · rw [if_neg c5] at H
              have c5b0 : ((rd l0 x7_1) == 1) = false := beq_eq_false_iff_ne.mpr c5
              have c5b1 : ((rd l0 x7_1) != 1) = true := bne_iff_ne.mpr c5
              by_cases c6 : (wrap64 (x7_1 + 1)) ≥ (l0.length : Int)
              · rw [if_pos c6] at H
                have c6b0 : decide ((l0.length : Int) ≤ (wrap64 (x7_1 + 1))) = true := decide_eq_true c6
                clear c6
                simp only [Option.some.injEq, Prod.mk.injEq] at H
                obtain ⟨rfl, rfl, rfl⟩ := H
                have p161 : 0 ≤ (x7_1 : Int) := of_decide_eq_true (by first | (with_reducible assumption) | assumption)
                have q161 : x7_1 < (l0.length : Int) := of_decide_eq_true (by first | (with_reducible assumption) | assumption)
                obtain ⟨ad161, e161, hx161_0⟩ := Kd.at_int HR0.out x7_1 p161 q161
                cases e161
                replace p161 := eq_true p161
                replace q161 := eq_true q161
                have p162 : 0 ≤ (x7_1 : Int) := of_decide_eq_true (by first | (with_reducible assumption) | assumption)
                have q162 : x7_1 < (l0.length : Int) := of_decide_eq_true (by first | (with_reducible assumption) | assumption)
                obtain ⟨ad162, e162, hx162_0⟩ := Kd.at_int HR0.out x7_1 p162 q162
                obtain rfl : ad161 = ad162 := (by injection e162)
                replace p162 := eq_true p162
                replace q162 := eq_true q162
                go_wp2
                repeat (go_quiet (fail); try go_wp2)
                go_ret3
                exact ⟨by first | rfl | (simp; done) | (simp [*]; done), by repeat (first | exact Drawn0.refl _ | apply Drawn0.step)⟩
              · rw [if_neg c6] at H
                have c6b0 : decide ((l0.length : Int) ≤ (wrap64 (x7_1 + 1))) = false := decide_eq_false c6
                clear c6
                obtain ⟨ji7, hji7⟩ : ∃ j_ : Int, (wrap64 (x7_1 + 1)) = j_ := ⟨_, rfl⟩
                replace H : (if 0 ≤ (ji7) then (if (ji7) < (l0.length : Int) then (if (wrap64 (rd l0 (ji7))) < 2 then (towroperef09_Read.j1 k1 l0 x5_1 x6_1 x7_1 (wrap64 (rd l0 (ji7))) true) else (if (wrap64 (rd l0 (ji7))) > (wrap64 ((l0.length : Int) - x7_1)) then (towroperef09_Read.j1 k1 l0 x5_1 x6_1 x7_1 (wrap64 (rd l0 (ji7))) true) else (if (rd l0 x7_1) = 2 then (if (wrap64 (rd l0 (ji7))) = 4 then (if (rd l0 x7_1) = 3 then (towroperef09_Read.j1 k1 l0 x5_1 x6_1 x7_1 (wrap64 (rd l0 (ji7))) ((wrap64 (rd l0 (ji7))) != 3)) else (towroperef09_Read.j1 k1 l0 x5_1 x6_1 x7_1 (wrap64 (rd l0 (ji7))) false)) else (towroperef09_Read.j1 k1 l0 x5_1 x6_1 x7_1 (wrap64 (rd l0 (ji7))) true)) else (if (rd l0 x7_1) = 3 then (towroperef09_Read.j1 k1 l0 x5_1 x6_1 x7_1 (wrap64 (rd l0 (ji7))) ((wrap64 (rd l0 (ji7))) != 3)) else (towroperef09_Read.j1 k1 l0 x5_1 x6_1 x7_1 (wrap64 (rd l0 (ji7))) false))))) else (none)) else (none)) = some (r1, r2, r3) := by first | (rw [hji7] at H; exact H) | (simp only [hji7] at H ⊢; exact H)
                (try rw [hji7] at c6b0)
                have hji7w : (IntKind.i64.wrap (x7_1 + 1)) = ji7 := (i64_w _).trans hji7
                by_cases c8 : 0 ≤ (ji7)
                · rw [if_pos c8] at H
                  have c8b0 : decide (0 ≤ (ji7)) = true := decide_eq_true c8
                  clear c8
                  by_cases c9 : (ji7) < (l0.length : Int)
                  · rw [if_pos c9] at H
                    have c9b0 : decide ((ji7) < (l0.length : Int)) = true := decide_eq_true c9
                    clear c9
                    have HC10 := Aside0.mk H
                    clear H
                    have p161 : 0 ≤ (x7_1 : Int) := of_decide_eq_true (by first | (with_reducible assumption) | assumption)
                    have q161 : x7_1 < (l0.length : Int) := of_decide_eq_true (by first | (with_reducible assumption) | assumption)
                    obtain ⟨ad161, e161, hx161_0⟩ := Kd.at_int HR0.out x7_1 p161 q161
                    cases e161
                    replace p161 := eq_true p161
                    replace q161 := eq_true q161
                    have p162 : 0 ≤ (x7_1 : Int) := of_decide_eq_true (by first | (with_reducible assumption) | assumption)
                    have q162 : x7_1 < (l0.length : Int) := of_decide_eq_true (by first | (with_reducible assumption) | assumption)
                    obtain ⟨ad162, e162, hx162_0⟩ := Kd.at_int HR0.out x7_1 p162 q162
                    obtain rfl : ad161 = ad162 := (by injection e162)
                    replace p162 := eq_true p162
                    replace q162 := eq_true q162
                    have p163 : 0 ≤ ((ji7) : Int) := of_decide_eq_true (by first | (with_reducible assumption) | assumption)
                    have q163 : (ji7) < (l0.length : Int) := of_decide_eq_true (by first | (with_reducible assumption) | assumption)
                    obtain ⟨ad163, e163, hx163_0⟩ := Kd.at_int HR0.out (ji7) p163 q163
                    obtain rfl : ad161 = ad163 := (by injection e163)
                    replace p163 := eq_true p163
                    replace q163 := eq_true q163
                    go_upto_region 11 with (fail)
                    repeat (go_quiet (fail); go_upto_region 11 with (fail))
                    go_cut [69] (fun v69 wc => ∃ (kq : Nat) (x69_9 : Bool), v69 = .bool x69_9 ∧ Aside0 (towroperef09_Read.j1 kq l0 x5_1 x6_1 x7_1 (wrap64 (rd l0 (ji7))) x69_9 = some (r1, r2, r3)) ∧ Aside0 (kq ≤ k1) ∧ Drawn0 w wc)
                    case first =>
                      have H := HC10.out
                      clear HC10
                      by_cases c11 : (wrap64 (rd l0 (ji7))) < 2
                      · rw [if_pos c11] at H
                        have c11b0 : decide ((wrap64 (rd l0 (ji7))) < 2) = true := decide_eq_true c11
                        clear c11
                        (first | rw [c11b0] | (simp only [i64_w, i32_w]; rw [c11b0]) | skip)
                        have H' := Aside0.mk H
                        clear H
                        go_wp2
                        repeat (go_quiet (fail); try go_wp2)
                        go_meet
                        case rel => exact ⟨_, (true), (by first | rfl | (simp; done) | (simp [*]; done)), H', ⟨by have := HK1.out; first | omega | exact Nat.le_refl _⟩, by repeat (first | exact Drawn0.refl _ | apply Drawn0.step)⟩
                      · rw [if_neg c11] at H
                        have c11b0 : decide ((wrap64 (rd l0 (ji7))) < 2) = false := decide_eq_false c11
                        clear c11
                        (first | rw [c11b0] | (simp only [i64_w, i32_w]; rw [c11b0]) | skip)
                        by_cases c12 : (wrap64 (rd l0 (ji7))) > (wrap64 ((l0.length : Int) - x7_1))
                        · rw [if_pos c12] at H
                          have c12b0 : decide ((wrap64 ((l0.length : Int) - x7_1)) < (wrap64 (rd l0 (ji7)))) = true := decide_eq_true c12
                          clear c12
                          have H' := Aside0.mk H
                          clear H
                          go_wp2
                          repeat (go_quiet (fail); try go_wp2)
                          go_meet
                          case rel => exact ⟨_, (true), (by first | rfl | (simp; done) | (simp [*]; done)), H', ⟨by have := HK1.out; first | omega | exact Nat.le_refl _⟩, by repeat (first | exact Drawn0.refl _ | apply Drawn0.step)⟩
                        · rw [if_neg c12] at H
                          have c12b0 : decide ((wrap64 ((l0.length : Int) - x7_1)) < (wrap64 (rd l0 (ji7)))) = false := decide_eq_false c12
                          clear c12
                          by_cases c13 : (rd l0 x7_1) = 2
                          · rw [if_pos c13] at H
                            have c13b0 : ((rd l0 x7_1) == 2) = true := beq_iff_eq.mpr c13
                            have c13b1 : ((rd l0 x7_1) != 2) = false := bne_eq_false_iff_eq.mpr c13
                            clear c13
                            by_cases c14 : (wrap64 (rd l0 (ji7))) = 4
                            · rw [if_pos c14] at H
                              have c14b0 : ((wrap64 (rd l0 (ji7))) == 4) = true := beq_iff_eq.mpr c14
                              have c14b1 : ((wrap64 (rd l0 (ji7))) != 4) = false := bne_eq_false_iff_eq.mpr c14
                              clear c14
                              by_cases c15 : (rd l0 x7_1) = 3
                              · rw [if_pos c15] at H
                                have c15b0 : ((rd l0 x7_1) == 3) = true := beq_iff_eq.mpr c15
                                have c15b1 : ((rd l0 x7_1) != 3) = false := bne_eq_false_iff_eq.mpr c15
                                clear c15
                                have H' := Aside0.mk H
                                clear H
                                have p164 : 0 ≤ (x7_1 : Int) := of_decide_eq_true (by first | (with_reducible assumption) | assumption)
                                have q164 : x7_1 < (l0.length : Int) := of_decide_eq_true (by first | (with_reducible assumption) | assumption)
                                obtain ⟨ad164, e164, hx164_0⟩ := Kd.at_int HR0.out x7_1 p164 q164
                                obtain rfl : ad161 = ad164 := (by injection e164)
                                replace p164 := eq_true p164
                                replace q164 := eq_true q164
                                have p165 : 0 ≤ (x7_1 : Int) := of_decide_eq_true (by first | (with_reducible assumption) | assumption)
                                have q165 : x7_1 < (l0.length : Int) := of_decide_eq_true (by first | (with_reducible assumption) | assumption)
                                obtain ⟨ad165, e165, hx165_0⟩ := Kd.at_int HR0.out x7_1 p165 q165
                                obtain rfl : ad161 = ad165 := (by injection e165)
                                replace p165 := eq_true p165
                                replace q165 := eq_true q165
                                go_wp2
                                repeat (go_quiet (fail); try go_wp2)
                                go_meet
                                case rel => exact ⟨_, (((wrap64 (rd l0 (ji7))) != 3)), (by first | rfl | (simp; done) | (simp only [← hji7] <;> (first | rfl | simp)) | (simp [*]; done)), H', ⟨by have := HK1.out; first | omega | exact Nat.le_refl _⟩, by repeat (first | exact Drawn0.refl _ | apply Drawn0.step)⟩
                              · rw [if_neg c15] at H
                                have c15b0 : ((rd l0 x7_1) == 3) = false := beq_eq_false_iff_ne.mpr c15
                                have c15b1 : ((rd l0 x7_1) != 3) = true := bne_iff_ne.mpr c15
                                have H' := Aside0.mk H
                                clear H
                                have p164 : 0 ≤ (x7_1 : Int) := of_decide_eq_true (by first | (with_reducible assumption) | assumption)
                                have q164 : x7_1 < (l0.length : Int) := of_decide_eq_true (by first | (with_reducible assumption) | assumption)
                                obtain ⟨ad164, e164, hx164_0⟩ := Kd.at_int HR0.out x7_1 p164 q164
                                obtain rfl : ad161 = ad164 := (by injection e164)
                                replace p164 := eq_true p164
                                replace q164 := eq_true q164
                                have p165 : 0 ≤ (x7_1 : Int) := of_decide_eq_true (by first | (with_reducible assumption) | assumption)
                                have q165 : x7_1 < (l0.length : Int) := of_decide_eq_true (by first | (with_reducible assumption) | assumption)
                                obtain ⟨ad165, e165, hx165_0⟩ := Kd.at_int HR0.out x7_1 p165 q165
                                obtain rfl : ad161 = ad165 := (by injection e165)
                                replace p165 := eq_true p165
                                replace q165 := eq_true q165
                                go_wp2
                                repeat (go_quiet (fail); try go_wp2)
                                go_meet
                                case rel => exact ⟨_, (false), (by first | rfl | (simp; done) | (simp [*]; done)), H', ⟨by have := HK1.out; first | omega | exact Nat.le_refl _⟩, by repeat (first | exact Drawn0.refl _ | apply Drawn0.step)⟩
                            · rw [if_neg c14] at H
                              have c14b0 : ((wrap64 (rd l0 (ji7))) == 4) = false := beq_eq_false_iff_ne.mpr c14
                              have c14b1 : ((wrap64 (rd l0 (ji7))) != 4) = true := bne_iff_ne.mpr c14
                              have H' := Aside0.mk H
                              clear H
                              have p164 : 0 ≤ (x7_1 : Int) := of_decide_eq_true (by first | (with_reducible assumption) | assumption)
                              have q164 : x7_1 < (l0.length : Int) := of_decide_eq_true (by first | (with_reducible assumption) | assumption)
                              obtain ⟨ad164, e164, hx164_0⟩ := Kd.at_int HR0.out x7_1 p164 q164
                              obtain rfl : ad161 = ad164 := (by injection e164)
                              replace p164 := eq_true p164
                              replace q164 := eq_true q164
                              go_wp2
                              repeat (go_quiet (fail); try go_wp2)
                              go_meet
                              case rel => exact ⟨_, (true), (by first | rfl | (simp; done) | (simp [*]; done)), H', ⟨by have := HK1.out; first | omega | exact Nat.le_refl _⟩, by repeat (first | exact Drawn0.refl _ | apply Drawn0.step)⟩
                          · rw [if_neg c13] at H
                            have c13b0 : ((rd l0 x7_1) == 2) = false := beq_eq_false_iff_ne.mpr c13
                            have c13b1 : ((rd l0 x7_1) != 2) = true := bne_iff_ne.mpr c13
                            by_cases c16 : (rd l0 x7_1) = 3
                            · rw [if_pos c16] at H
                              have c16b0 : ((rd l0 x7_1) == 3) = true := beq_iff_eq.mpr c16
                              have c16b1 : ((rd l0 x7_1) != 3) = false := bne_eq_false_iff_eq.mpr c16
                              clear c16
                              have H' := Aside0.mk H
                              clear H
                              have p164 : 0 ≤ (x7_1 : Int) := of_decide_eq_true (by first | (with_reducible assumption) | assumption)
                              have q164 : x7_1 < (l0.length : Int) := of_decide_eq_true (by first | (with_reducible assumption) | assumption)
                              obtain ⟨ad164, e164, hx164_0⟩ := Kd.at_int HR0.out x7_1 p164 q164
                              obtain rfl : ad161 = ad164 := (by injection e164)
                              replace p164 := eq_true p164
                              replace q164 := eq_true q164
                              have p166 : 0 ≤ (x7_1 : Int) := of_decide_eq_true (by first | (with_reducible assumption) | assumption)
                              have q166 : x7_1 < (l0.length : Int) := of_decide_eq_true (by first | (with_reducible assumption) | assumption)
                              obtain ⟨ad166, e166, hx166_0⟩ := Kd.at_int HR0.out x7_1 p166 q166
                              obtain rfl : ad161 = ad166 := (by injection e166)
                              replace p166 := eq_true p166
                              replace q166 := eq_true q166
                              go_wp2
                              repeat (go_quiet (fail); try go_wp2)
                              go_meet
                              case rel => exact ⟨_, (((wrap64 (rd l0 (ji7))) != 3)), (by first | rfl | (simp; done) | (simp only [← hji7] <;> (first | rfl | simp)) | (simp [*]; done)), H', ⟨by have := HK1.out; first | omega | exact Nat.le_refl _⟩, by repeat (first | exact Drawn0.refl _ | apply Drawn0.step)⟩
                            · rw [if_neg c16] at H
                              have c16b0 : ((rd l0 x7_1) == 3) = false := beq_eq_false_iff_ne.mpr c16
                              have c16b1 : ((rd l0 x7_1) != 3) = true := bne_iff_ne.mpr c16
                              have H' := Aside0.mk H
                              clear H
                              have p164 : 0 ≤ (x7_1 : Int) := of_decide_eq_true (by first | (with_reducible assumption) | assumption)
                              have q164 : x7_1 < (l0.length : Int) := of_decide_eq_true (by first | (with_reducible assumption) | assumption)
                              obtain ⟨ad164, e164, hx164_0⟩ := Kd.at_int HR0.out x7_1 p164 q164
                              obtain rfl : ad161 = ad164 := (by injection e164)
                              replace p164 := eq_true p164
                              replace q164 := eq_true q164
                              have p166 : 0 ≤ (x7_1 : Int) := of_decide_eq_true (by first | (with_reducible assumption) | assumption)
                              have q166 : x7_1 < (l0.length : Int) := of_decide_eq_true (by first | (with_reducible assumption) | assumption)
                              obtain ⟨ad166, e166, hx166_0⟩ := Kd.at_int HR0.out x7_1 p166 q166
                              obtain rfl : ad161 = ad166 := (by injection e166)
                              replace p166 := eq_true p166
                              replace q166 := eq_true q166
                              go_wp2
                              repeat (go_quiet (fail); try go_wp2)
                              go_meet
                              case rel => exact ⟨_, (false), (by first | rfl | (simp; done) | (simp [*]; done)), H', ⟨by have := HK1.out; first | omega | exact Nat.le_refl _⟩, by repeat (first | exact Drawn0.refl _ | apply Drawn0.step)⟩
                    case rest =>
                      clear HC10
                      try clear c1
                      try clear p1
                      try clear q1
                      try clear hx1
                      try clear c2
                      try clear c2b0
                      try clear p2
                      try clear c3
                      try clear c3b0
                      try clear c4
                      try clear c4b0
                      try clear c4b1
                      try clear c5
                      try clear c5b0
                      try clear c5b1
                      try clear c6
                      try clear c6b0
                      try clear p6
                      try clear c8
                      try clear c8b0
                      try clear c9
                      try clear c9b0
                      try clear c11
                      try clear c11b0
                      try clear c12
                      try clear c12b0
                      try clear c13
                      try clear c13b0
                      try clear c13b1
                      try clear c14
                      try clear c14b0
                      try clear c14b1
                      try clear c15
                      try clear c15b0
                      try clear c15b1
                      try clear c16
                      try clear c16b0
                      try clear c16b1
                      try clear p16
                      try clear q16
                      try clear hx16
                      try clear hx161_0
                      try clear hx162_0
                      try clear hx163_0
                      try clear hx164_0
                      try clear hx165_0
                      try clear hx166_0
                      try clear p161
                      try clear p162
                      try clear p163
                      try clear p164
                      try clear p165
                      try clear p166
                      try clear q161
                      try clear q162
                      try clear q163
                      try clear q164
                      try clear q165
                      try clear q166
                      obtain ⟨kq, x69_9, rfl, HA, HJ9, ⟨mc9, rfl⟩⟩ := hcut
                      cases kq with
                      | zero => exact absurd HA.out (by simp [towroperef09_Read.j1])
                      | succ kj9 =>
                        have H := HA.out
                        clear HA
                        simp only [towroperef09_Read.j1] at H
                        by_cases c17 : x69_9 = true
                        · subst c17
                          have H1 : (some (0, 0, 3)) = some (r1, r2, r3) := by rw [if_pos rfl] at H; exact H
                          clear H
                          have H := H1
                          clear H1
                          simp only [Option.some.injEq, Prod.mk.injEq] at H
                          obtain ⟨rfl, rfl, rfl⟩ := H
                          go_wp2
                          repeat (go_quiet (fail); try go_wp2)
                          go_ret3
                          exact ⟨by first | rfl | (simp; done) | (simp only [← hji7] <;> (first | rfl | simp)) | (simp [*]; done), by repeat (first | exact Drawn0.refl _ | apply Drawn0.step)⟩
                        · replace c17 := Bool.eq_false_iff.mpr c17
                          subst c17
                          have H1 : (if 0 ≤ x7_1 then (if x7_1 < (l0.length : Int) then (if (rd l0 x7_1) = 2 then (if 0 ≤ (wrap64 (x7_1 + 2)) then (if (wrap64 (x7_1 + 2)) < (l0.length : Int) then (if 0 ≤ (wrap64 (x7_1 + 3)) then (if (wrap64 (x7_1 + 3)) < (l0.length : Int) then (towroperef09_Read.j2 kj9 l0 (wrap64 ((wrap64 (256 * (wrap64 (rd l0 (wrap64 (x7_1 + 2)))))) + (wrap64 (rd l0 (wrap64 (x7_1 + 3)))))) x6_1 x7_1 (wrap64 (rd l0 (ji7)))) else (none)) else (none)) else (none)) else (none)) else (towroperef09_Read.j2 kj9 l0 x5_1 x6_1 x7_1 (wrap64 (rd l0 (ji7))))) else (none)) else (none)) = some (r1, r2, r3) := by rw [if_neg (show ¬ (false = true) by decide)] at H; exact H
                          clear H
                          have H := H1
                          clear H1
                          by_cases c18 : 0 ≤ x7_1
                          · rw [if_pos c18] at H
                            have c18b0 : decide (0 ≤ x7_1) = true := decide_eq_true c18
                            clear c18
                            by_cases c19 : x7_1 < (l0.length : Int)
                            · rw [if_pos c19] at H
                              have c19b0 : decide (x7_1 < (l0.length : Int)) = true := decide_eq_true c19
                              clear c19
                              have HC20 := Aside0.mk H
                              clear H
                              have p167 : 0 ≤ (x7_1 : Int) := of_decide_eq_true (by first | (with_reducible assumption) | assumption)
                              have q167 : x7_1 < (l0.length : Int) := of_decide_eq_true (by first | (with_reducible assumption) | assumption)
                              obtain ⟨ad167, e167, hx167_0⟩ := Kd.at_int HR0.out x7_1 p167 q167
                              obtain rfl : ad161 = ad167 := (by injection e167)
                              replace p167 := eq_true p167
                              replace q167 := eq_true q167
                              go_upto_if 74 with (fail)
                              repeat (go_quiet (fail); go_upto_if 74 with (fail))
                              go_cut [5] (fun v5 wc => ∃ (kq : Nat) (x5_19 : Int), v5 = .int .i64 x5_19 ∧ Aside0 (towroperef09_Read.j2 kq l0 x5_19 x6_1 x7_1 (wrap64 (rd l0 (ji7))) = some (r1, r2, r3)) ∧ Aside0 (kq ≤ kj9) ∧ Drawn0 w wc)
                              case first =>
                                have H := HC20.out
                                clear HC20
                                by_cases c21 : (rd l0 x7_1) = 2
                                · rw [if_pos c21] at H
                                  have c21b0 : ((rd l0 x7_1) == 2) = true := beq_iff_eq.mpr c21
                                  have c21b1 : ((rd l0 x7_1) != 2) = false := bne_eq_false_iff_eq.mpr c21
                                  clear c21
                                  (first | rw [c21b0] | (simp only [i64_w, i32_w]; rw [c21b0]) | skip)
                                  obtain ⟨ji22, hji22⟩ : ∃ j_ : Int, (wrap64 (x7_1 + 2)) = j_ := ⟨_, rfl⟩
                                  replace H : (if 0 ≤ (ji22) then (if (ji22) < (l0.length : Int) then (if 0 ≤ (wrap64 (x7_1 + 3)) then (if (wrap64 (x7_1 + 3)) < (l0.length : Int) then (towroperef09_Read.j2 kj9 l0 (wrap64 ((wrap64 (256 * (wrap64 (rd l0 (ji22))))) + (wrap64 (rd l0 (wrap64 (x7_1 + 3)))))) x6_1 x7_1 (wrap64 (rd l0 (ji7)))) else (none)) else (none)) else (none)) else (none)) = some (r1, r2, r3) := by first | (rw [hji22] at H; exact H) | (simp only [hji22] at H ⊢; exact H)
                                  have hji22w : (IntKind.i64.wrap (x7_1 + 2)) = ji22 := (i64_w _).trans hji22
                                  by_cases c23 : 0 ≤ (ji22)
                                  · rw [if_pos c23] at H
                                    have c23b0 : decide (0 ≤ (ji22)) = true := decide_eq_true c23
                                    clear c23
                                    by_cases c24 : (ji22) < (l0.length : Int)
                                    · rw [if_pos c24] at H
                                      have c24b0 : decide ((ji22) < (l0.length : Int)) = true := decide_eq_true c24
                                      clear c24
                                      obtain ⟨ji25, hji25⟩ : ∃ j_ : Int, (wrap64 (x7_1 + 3)) = j_ := ⟨_, rfl⟩
                                      replace H : (if 0 ≤ (ji25) then (if (ji25) < (l0.length : Int) then (towroperef09_Read.j2 kj9 l0 (wrap64 ((wrap64 (256 * (wrap64 (rd l0 (ji22))))) + (wrap64 (rd l0 (ji25))))) x6_1 x7_1 (wrap64 (rd l0 (ji7)))) else (none)) else (none)) = some (r1, r2, r3) := by first | (rw [hji25] at H; exact H) | (simp only [hji25] at H ⊢; exact H)
                                      have hji25w : (IntKind.i64.wrap (x7_1 + 3)) = ji25 := (i64_w _).trans hji25
                                      by_cases c26 : 0 ≤ (ji25)
                                      · rw [if_pos c26] at H
                                        have c26b0 : decide (0 ≤ (ji25)) = true := decide_eq_true c26
                                        clear c26
                                        by_cases c27 : (ji25) < (l0.length : Int)
                                        · rw [if_pos c27] at H
                                          have c27b0 : decide ((ji25) < (l0.length : Int)) = true := decide_eq_true c27
                                          clear c27
                                          have H' := Aside0.mk H
                                          clear H
                                          have p168 : 0 ≤ ((ji22) : Int) := of_decide_eq_true (by first | (with_reducible assumption) | assumption)
                                          have q168 : (ji22) < (l0.length : Int) := of_decide_eq_true (by first | (with_reducible assumption) | assumption)
                                          obtain ⟨ad168, e168, hx168_0⟩ := Kd.at_int HR0.out (ji22) p168 q168
                                          obtain rfl : ad161 = ad168 := (by injection e168)
                                          replace p168 := eq_true p168
                                          replace q168 := eq_true q168
                                          have p169 : 0 ≤ ((ji25) : Int) := of_decide_eq_true (by first | (with_reducible assumption) | assumption)
                                          have q169 : (ji25) < (l0.length : Int) := of_decide_eq_true (by first | (with_reducible assumption) | assumption)
                                          obtain ⟨ad169, e169, hx169_0⟩ := Kd.at_int HR0.out (ji25) p169 q169
                                          obtain rfl : ad161 = ad169 := (by injection e169)
                                          replace p169 := eq_true p169
                                          replace q169 := eq_true q169
                                          go_wp2
                                          repeat (go_quiet (fail); try go_wp2)
                                          go_meet
                                          case rel => exact ⟨_, (wrap64 ((wrap64 (256 * (wrap64 (rd l0 (ji22))))) + (wrap64 (rd l0 (ji25))))), (by first | rfl | (simp; done) | (simp only [← hji22, ← hji25] <;> (first | rfl | simp)) | (simp [*]; done)), H', ⟨by have := HK1.out; have := HJ9.out; first | omega | exact Nat.le_refl _⟩, by repeat (first | exact Drawn0.refl _ | apply Drawn0.step)⟩
                                        · rw [if_neg c27] at H
                                          exact absurd H (by simp)
                                      · rw [if_neg c26] at H
                                        exact absurd H (by simp)
                                    · rw [if_neg c24] at H
                                      exact absurd H (by simp)
                                  · rw [if_neg c23] at H
                                    exact absurd H (by simp)
                                · rw [if_neg c21] at H
                                  have c21b0 : ((rd l0 x7_1) == 2) = false := beq_eq_false_iff_ne.mpr c21
                                  have c21b1 : ((rd l0 x7_1) != 2) = true := bne_iff_ne.mpr c21
                                  (first | rw [c21b0] | (simp only [i64_w, i32_w]; rw [c21b0]) | skip)
                                  have H' := Aside0.mk H
                                  clear H
                                  go_wp2
                                  repeat (go_quiet (fail); try go_wp2)
                                  go_meet
                                  case rel => exact ⟨_, (x5_1), (by first | rfl | (simp; done) | (simp [*]; done)), H', ⟨by have := HK1.out; have := HJ9.out; first | omega | exact Nat.le_refl _⟩, by repeat (first | exact Drawn0.refl _ | apply Drawn0.step)⟩
                              case rest =>
                                clear HC20
                                try clear c1
                                try clear p1
                                try clear q1
                                try clear hx1
                                try clear c2
                                try clear c2b0
                                try clear p2
                                try clear c3
                                try clear c3b0
                                try clear c4
                                try clear c4b0
                                try clear c4b1
                                try clear c5
                                try clear c5b0
                                try clear c5b1
                                try clear c6
                                try clear c6b0
                                try clear p6
                                try clear c8
                                try clear c8b0
                                try clear c9
                                try clear c9b0
                                try clear c11
                                try clear c11b0
                                try clear c12
                                try clear c12b0
                                try clear c13
                                try clear c13b0
                                try clear c13b1
                                try clear c14
                                try clear c14b0
                                try clear c14b1
                                try clear c15
                                try clear c15b0
                                try clear c15b1
                                try clear c16
                                try clear c16b0
                                try clear c16b1
                                try clear p16
                                try clear q16
                                try clear hx16
                                try clear c17
                                try clear c18
                                try clear c18b0
                                try clear c19
                                try clear c19b0
                                try clear c21
                                try clear c21b0
                                try clear c21b1
                                try clear c23
                                try clear c23b0
                                try clear c24
                                try clear c24b0
                                try clear c26
                                try clear c26b0
                                try clear c27
                                try clear c27b0
                                try clear hx161_0
                                try clear hx162_0
                                try clear hx163_0
                                try clear hx164_0
                                try clear hx165_0
                                try clear hx166_0
                                try clear hx167_0
                                try clear hx168_0
                                try clear hx169_0
                                try clear p1
                                try clear p16
                                try clear p161
                                try clear p162
                                try clear p163
                                try clear p164
                                try clear p165
                                try clear p166
                                try clear p167
                                try clear p168
                                try clear p169
                                try clear p2
                                try clear p6
                                try clear q1
                                try clear q16
                                try clear q161
                                try clear q162
                                try clear q163
                                try clear q164
                                try clear q165
                                try clear q166
                                try clear q167
                                try clear q168
                                try clear q169
                                obtain ⟨kq, x5_19, rfl, HA, HJ19, ⟨mc19, rfl⟩⟩ := hcut
                                cases kq with
                                | zero => exact absurd HA.out (by simp [towroperef09_Read.j2])
                                | succ kj19 =>
                                  have H := HA.out
                                  clear HA
                                  simp only [towroperef09_Read.j2] at H
                                  by_cases c28 : 0 ≤ x7_1
                                  · rw [if_pos c28] at H
                                    have c28b0 : decide (0 ≤ x7_1) = true := decide_eq_true c28
                                    clear c28
                                    by_cases c29 : x7_1 < (l0.length : Int)
                                    · rw [if_pos c29] at H
                                      have c29b0 : decide (x7_1 < (l0.length : Int)) = true := decide_eq_true c29
                                      clear c29
                                      by_cases c30 : (rd l0 x7_1) = 3
                                      · rw [if_pos c30] at H
                                        have c30b0 : ((rd l0 x7_1) == 3) = true := beq_iff_eq.mpr c30
                                        have c30b1 : ((rd l0 x7_1) != 3) = false := bne_eq_false_iff_eq.mpr c30
                                        clear c30
                                        obtain ⟨ji31, hji31⟩ : ∃ j_ : Int, (wrap64 (x7_1 + 2)) = j_ := ⟨_, rfl⟩
                                        replace H : (if 0 ≤ (ji31) then (if (ji31) < (l0.length : Int) then (if (wrap64 (1 + (wrap64 (rd l0 (ji31))))) > 15 then (towroperef09_Read.l0 kj19 l0 x5_19 15 (wrap64 (x7_1 + (wrap64 (rd l0 (ji7)))))) else (towroperef09_Read.l0 kj19 l0 x5_19 (wrap64 (1 + (wrap64 (rd l0 (ji31))))) (wrap64 (x7_1 + (wrap64 (rd l0 (ji7))))))) else (none)) else (none)) = some (r1, r2, r3) := by first | (rw [hji31] at H; exact H) | (simp only [hji31] at H ⊢; exact H)
                                        have hji31w : (IntKind.i64.wrap (x7_1 + 2)) = ji31 := (i64_w _).trans hji31
                                        by_cases c32 : 0 ≤ (ji31)
                                        · rw [if_pos c32] at H
                                          have c32b0 : decide (0 ≤ (ji31)) = true := decide_eq_true c32
                                          clear c32
                                          by_cases c33 : (ji31) < (l0.length : Int)
                                          · rw [if_pos c33] at H
                                            have c33b0 : decide ((ji31) < (l0.length : Int)) = true := decide_eq_true c33
                                            clear c33
                                            by_cases c34 : (wrap64 (1 + (wrap64 (rd l0 (ji31))))) > 15
                                            · rw [if_pos c34] at H
                                              have c34b0 : decide (15 < (wrap64 (1 + (wrap64 (rd l0 (ji31)))))) = true := decide_eq_true c34
                                              clear c34
                                              have H' := Aside0.mk H
                                              clear H
                                              have p170 : 0 ≤ (x7_1 : Int) := of_decide_eq_true (by first | (with_reducible assumption) | assumption)
                                              have q170 : x7_1 < (l0.length : Int) := of_decide_eq_true (by first | (with_reducible assumption) | assumption)
                                              obtain ⟨ad170, e170, hx170_0⟩ := Kd.at_int HR0.out x7_1 p170 q170
                                              obtain rfl : ad161 = ad170 := (by injection e170)
                                              replace p170 := eq_true p170
                                              replace q170 := eq_true q170
                                              have p171 : 0 ≤ ((ji31) : Int) := of_decide_eq_true (by first | (with_reducible assumption) | assumption)
                                              have q171 : (ji31) < (l0.length : Int) := of_decide_eq_true (by first | (with_reducible assumption) | assumption)
                                              obtain ⟨ad171, e171, hx171_0⟩ := Kd.at_int HR0.out (ji31) p171 q171
                                              obtain rfl : ad161 = ad171 := (by injection e171)
                                              replace p171 := eq_true p171
                                              replace q171 := eq_true q171
                                              go_wp2
                                              repeat (go_quiet (fail); try go_wp2)
                                              go_roundg kj19
                                              case measure => have := HK1.out; have := HJ9.out; have := HJ19.out; omega
                                              case rel => exact ⟨(x5_19), (15), (wrap64 (x7_1 + (wrap64 (rd l0 (ji7))))), (by first | rfl | (simp; done) | (simp [*]; done)), (by first | rfl | (simp; done) | (simp [*]; done)), (by first | rfl | (simp; done) | (simp only [← hji7] <;> (first | rfl | simp)) | (simp [*]; done)), H', ⟨by have := HK1.out; have := HJ9.out; have := HJ19.out; omega⟩, by repeat (first | exact Drawn0.refl _ | apply Drawn0.step)⟩
                                            · rw [if_neg c34] at H
                                              have c34b0 : decide (15 < (wrap64 (1 + (wrap64 (rd l0 (ji31)))))) = false := decide_eq_false c34
                                              clear c34
                                              have H' := Aside0.mk H
                                              clear H
                                              have p170 : 0 ≤ (x7_1 : Int) := of_decide_eq_true (by first | (with_reducible assumption) | assumption)
                                              have q170 : x7_1 < (l0.length : Int) := of_decide_eq_true (by first | (with_reducible assumption) | assumption)
                                              obtain ⟨ad170, e170, hx170_0⟩ := Kd.at_int HR0.out x7_1 p170 q170
                                              obtain rfl : ad161 = ad170 := (by injection e170)
                                              replace p170 := eq_true p170
                                              replace q170 := eq_true q170
                                              have p171 : 0 ≤ ((ji31) : Int) := of_decide_eq_true (by first | (with_reducible assumption) | assumption)
                                              have q171 : (ji31) < (l0.length : Int) := of_decide_eq_true (by first | (with_reducible assumption) | assumption)
                                              obtain ⟨ad171, e171, hx171_0⟩ := Kd.at_int HR0.out (ji31) p171 q171
                                              obtain rfl : ad161 = ad171 := (by injection e171)
                                              replace p171 := eq_true p171
                                              replace q171 := eq_true q171
                                              go_wp2
                                              repeat (go_quiet (fail); try go_wp2)
                                              go_roundg kj19
                                              case measure => have := HK1.out; have := HJ9.out; have := HJ19.out; omega
                                              case rel => exact ⟨(x5_19), (wrap64 (1 + (wrap64 (rd l0 (ji31))))), (wrap64 (x7_1 + (wrap64 (rd l0 (ji7))))), (by first | rfl | (simp; done) | (simp [*]; done)), (by first | rfl | (simp; done) | (simp only [← hji31] <;> (first | rfl | simp)) | (simp [*]; done)), (by first | rfl | (simp; done) | (simp only [← hji7] <;> (first | rfl | simp)) | (simp [*]; done)), H', ⟨by have := HK1.out; have := HJ9.out; have := HJ19.out; omega⟩, by repeat (first | exact Drawn0.refl _ | apply Drawn0.step)⟩
                                          · rw [if_neg c33] at H
                                            exact absurd H (by simp)
                                        · rw [if_neg c32] at H
                                          exact absurd H (by simp)
                                      · rw [if_neg c30] at H
                                        have c30b0 : ((rd l0 x7_1) == 3) = false := beq_eq_false_iff_ne.mpr c30
                                        have c30b1 : ((rd l0 x7_1) != 3) = true := bne_iff_ne.mpr c30
                                        have H' := Aside0.mk H
                                        clear H
                                        have p170 : 0 ≤ (x7_1 : Int) := of_decide_eq_true (by first | (with_reducible assumption) | assumption)
                                        have q170 : x7_1 < (l0.length : Int) := of_decide_eq_true (by first | (with_reducible assumption) | assumption)
                                        obtain ⟨ad170, e170, hx170_0⟩ := Kd.at_int HR0.out x7_1 p170 q170
                                        obtain rfl : ad161 = ad170 := (by injection e170)
                                        replace p170 := eq_true p170
                                        replace q170 := eq_true q170
                                        go_wp2
                                        repeat (go_quiet (fail); try go_wp2)
                                        go_roundg kj19
                                        case measure => have := HK1.out; have := HJ9.out; have := HJ19.out; omega
                                        case rel => exact ⟨(x5_19), (x6_1), (wrap64 (x7_1 + (wrap64 (rd l0 (ji7))))), (by first | rfl | (simp; done) | (simp [*]; done)), (by first | rfl | (simp; done) | (simp [*]; done)), (by first | rfl | (simp; done) | (simp only [← hji7] <;> (first | rfl | simp)) | (simp [*]; done)), H', ⟨by have := HK1.out; have := HJ9.out; have := HJ19.out; omega⟩, by repeat (first | exact Drawn0.refl _ | apply Drawn0.step)⟩
                                    · rw [if_neg c29] at H
                                      exact absurd H (by simp)
                                  · rw [if_neg c28] at H
                                    exact absurd H (by simp)
                            · rw [if_neg c19] at H
                              exact absurd H (by simp)
                          · rw [if_neg c18] at H
                            exact absurd H (by simp)
                  · rw [if_neg c9] at H
                    exact absurd H (by simp)
                · rw [if_neg c8] at H
                  exact absurd H (by simp)
        · rw [if_neg c3] at H
          exact absurd H (by simp)
      · rw [if_neg c2] at H
        have c2b0 : decide (x7_1 < (l0.length : Int)) = false := decide_eq_false c2
        clear c2
        simp only [Option.some.injEq, Prod.mk.injEq] at H
        obtain ⟨rfl, rfl, rfl⟩ := H
        go_wp2
        repeat (go_quiet (fail); try go_wp2)
        go_ret3
        exact ⟨by first | rfl | (simp; done) | (simp [*]; done), by repeat (first | exact Drawn0.refl _ | apply Drawn0.step)⟩

end Go.Proofs.Ytilkbmjkjlbfmaa.PSeg
