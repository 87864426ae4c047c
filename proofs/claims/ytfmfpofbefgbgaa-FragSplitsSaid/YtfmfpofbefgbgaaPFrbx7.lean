-- Laid by a program of this session (wip/tools/mk.py) over the kit's print: functions, contracts, walks; not written by hand, not trusted: Lean checks it.
import Derived.Test.YtfmfpofbefgbgaaPFrbx0
import Derived.Test.YtfmfpofbefgbgaaPFrbx5
namespace Go.Proofs.Ytfmfpofbefgbgaa.PFrb
open Go.RowKit Go.Proofs.YtfmfpofbefgbgaaW.PrintWords Go.Proofs.YtfmfpofbefgbgaaW.PrintLast Go.Proofs.YtfmfpofbefgbgaaW.PrintMore
attribute [local go_sem] max2_int min2_int max_two min_two max_three min_three max_four min_four   -- for this text's walks alone
set_option linter.unusedVariables false
set_option linter.unusedSimpArgs false

/-! ### towroperef06_Check: function 72 -/
def towroperef06_Check.j0 : Nat → Bool → Int → Int → Bool → Bool → Int → Int → Int → Int → Int → List Int → List Int → Option (Int)
  | 0, _, _, _, _, _, _, _, _, _, _, _, _ => none
  | k + 1, x23, x184000, x184001, x184002, x184003, x184004, x184005, x184006, x184007, x184008, x184009, x184010 => if x23 = true then (some 1) else ((towroperef06_Len.f x184000 x184001 x184002 x184003 x184004 x184005 x184006 x184007 x184008 x184009 x184010).bind fun t184 => (if t184 > 65535 then (some 9) else (some 0)))
def towroperef06_Check.f (k : Nat) (a0_0 : Int) (a0_1 : Int) (a0_2 : Bool) (a0_3 : Bool) (a0_4 : Int) (a0_5 : Int) (a0_6 : Int) (a0_7 : Int) (a0_8 : Int) (l0_9 : List Int) (l0_10 : List Int) : Option (Int) := if a0_4 < 0 then (towroperef06_Check.j0 k true a0_0 a0_1 a0_2 a0_3 a0_4 a0_5 a0_6 a0_7 a0_8 l0_9 l0_10) else (if a0_4 > 8191 then (towroperef06_Check.j0 k true a0_0 a0_1 a0_2 a0_3 a0_4 a0_5 a0_6 a0_7 a0_8 l0_9 l0_10) else (if (l0_9.length : Int) > 40 then (towroperef06_Check.j0 k true a0_0 a0_1 a0_2 a0_3 a0_4 a0_5 a0_6 a0_7 a0_8 l0_9 l0_10) else (towroperef06_Check.j0 k (((l0_9.length : Int) % 4) != 0) a0_0 a0_1 a0_2 a0_3 a0_4 a0_5 a0_6 a0_7 a0_8 l0_9 l0_10)))
theorem towroperef06_Check.mono_l : ∀ k, (∀ y0 y1 y2 y3 y4 y5 y6 y7 y8 y9 y10 y11, LeO (towroperef06_Check.j0 k y0 y1 y2 y3 y4 y5 y6 y7 y8 y9 y10 y11) (towroperef06_Check.j0 (k + 1) y0 y1 y2 y3 y4 y5 y6 y7 y8 y9 y10 y11))
  | 0 => fun _ _ _ _ _ _ _ _ _ _ _ _ r h => by simp [towroperef06_Check.j0] at h
  | k + 1 => by
    have ih0 := towroperef06_Check.mono_l k
    · intro y0 y1 y2 y3 y4 y5 y6 y7 y8 y9 y10 y11
      unfold towroperef06_Check.j0
      repeat' first
      | (with_reducible exact ih0 _ _ _ _ _ _ _ _ _ _ _ _)
      | (with_reducible exact LeO.refl _)
      | (with_reducible exact LeO.none _)
      | (with_reducible refine LeO.ite ?_ ?_)
      | (with_reducible refine LeO.bind ?_ (fun _ => ?_))
      | exact ih0 _ _ _ _ _ _ _ _ _ _ _ _
      | exact LeO.none _
      | refine LeO.ite ?_ ?_
      | refine LeO.bind ?_ (fun _ => ?_)
theorem towroperef06_Check.mono : ∀ a0 a1 a2 a3 a4 a5 a6 a7 a8 a9 a10 k, LeO (towroperef06_Check.f k a0 a1 a2 a3 a4 a5 a6 a7 a8 a9 a10) (towroperef06_Check.f (k + 1) a0 a1 a2 a3 a4 a5 a6 a7 a8 a9 a10) := by
  intro a0 a1 a2 a3 a4 a5 a6 a7 a8 a9 a10 k
  have ih0 := towroperef06_Check.mono_l k
  unfold towroperef06_Check.f
  repeat' first
      | (with_reducible exact ih0 _ _ _ _ _ _ _ _ _ _ _ _)
      | (with_reducible exact LeO.refl _)
      | (with_reducible exact LeO.none _)
      | (with_reducible refine LeO.ite ?_ ?_)
      | (with_reducible refine LeO.bind ?_ (fun _ => ?_))
      | exact ih0 _ _ _ _ _ _ _ _ _ _ _ _
      | exact LeO.none _
      | refine LeO.ite ?_ ?_
      | refine LeO.bind ?_ (fun _ => ?_)
set_option maxHeartbeats 8000000 in
set_option maxRecDepth 100000 in
theorem towroperef06_Check.calls (k : Nat) (a0_0 : Int) (a0_1 : Int) (a0_2 : Bool) (a0_3 : Bool) (a0_4 : Int) (a0_5 : Int) (a0_6 : Int) (a0_7 : Int) (a0_8 : Int) (A0_9 : Option Addr) (c0_9 : Nat) (l0_9 : List Int) (A0_10 : Option Addr) (c0_10 : Nat) (l0_10 : List Int) (r : Int) (w : World) (hr0_9 : Kd.C (Kd.int .u8) w A0_9 l0_9.length l0_9) (hc0_9 : l0_9.length ≤ c0_9) (hr0_10 : Kd.C (Kd.int .u8) w A0_10 l0_10.length l0_10) (hc0_10 : l0_10.length ≤ c0_10) (h : towroperef06_Check.f k a0_0 a0_1 a0_2 a0_3 a0_4 a0_5 a0_6 a0_7 a0_8 l0_9 l0_10 = some r) :
    Calls Try.prog 72 #[.agg #[.int .u8 a0_0, .int .u16 a0_1, .bool a0_2, .bool a0_3, .int .i64 a0_4, .int .u8 a0_5, .int .u8 a0_6, .int .u32 a0_7, .int .u32 a0_8, .slice A0_9 l0_9.length c0_9, .slice A0_10 l0_10.length c0_10]] w fun e w' => e = .returned (.int .i64 r) ∧ Below w.heap.size w w' := by
  have hu68 := Try.underlying68
  have HR0_9 := Aside0.mk hr0_9
  have HC0_9 := Aside0.mk hc0_9
  clear hr0_9 hc0_9
  have HR0_10 := Aside0.mk hr0_10
  have HC0_10 := Aside0.mk hc0_10
  clear hr0_10 hc0_10
  have HB := Aside0.mk (Below.refl w.heap.size w)
  have H : (if a0_4 < 0 then (towroperef06_Check.j0 k true a0_0 a0_1 a0_2 a0_3 a0_4 a0_5 a0_6 a0_7 a0_8 l0_9 l0_10) else (if a0_4 > 8191 then (towroperef06_Check.j0 k true a0_0 a0_1 a0_2 a0_3 a0_4 a0_5 a0_6 a0_7 a0_8 l0_9 l0_10) else (if (l0_9.length : Int) > 40 then (towroperef06_Check.j0 k true a0_0 a0_1 a0_2 a0_3 a0_4 a0_5 a0_6 a0_7 a0_8 l0_9 l0_10) else (towroperef06_Check.j0 k (((l0_9.length : Int) % 4) != 0) a0_0 a0_1 a0_2 a0_3 a0_4 a0_5 a0_6 a0_7 a0_8 l0_9 l0_10)))) = some r := h
  clear h
  have HC2 := Aside0.mk H
  clear H
  go_enter Try.func72, Try.ntmps72
  go_upto_region 1 with (first | ((with_reducible refine gate_dst (N := 1) rfl ?_); (try (refine gate_guard (by rfl) ?_; dsimp only)); refine box_event ?hg (N := 1) ?hd (cs := #[.int .u8 a0_0, .int .u16 a0_1, .bool a0_2, .bool a0_3, .int .i64 a0_4, .int .u8 a0_5, .int .u8 a0_6, .int .u32 a0_7, .int .u32 a0_8, .slice A0_9 l0_9.length c0_9, .slice A0_10 l0_10.length c0_10]) (t := 68) ?hr ?_; (case hd => rfl); (case hg => rfl); (case hr => first | (go_simp; done) | (go_simp; rfl)); intro gb183 hg w3 hbox hb; have n0_ := Aside0.mk (below_step (by repeat (first | (with_reducible first | exact HB.out | apply below_alloc | apply pw_below_drewN | apply below_drew1) | exact HB.out)) hb); have n1_ := Aside0.mk (hbox); have n2_ := Aside0.mk ((by rw [hg]; exact (below_size (by repeat (first | (with_reducible first | exact HB.out | apply below_alloc | apply pw_below_drewN | apply below_drew1) | exact HB.out))) : w.heap.size ≤ gb183)); have n3_ := Aside0.mk ((by rw [hg]; exact (below_size (by repeat (first | (with_reducible first | exact HB.out | apply below_alloc | apply pw_below_drewN | apply below_drew1) | exact HB.out))) : w.heap.size ≤ gb183)); clear HB; have HB := n0_; have BK183 := n1_; have GW183 := n2_; have GE183 := n3_; clear n0_ n1_ n2_ n3_; clear hb hbox hg))
  (try simp only [Act.put, List.setIfInBounds_toArray, List.set_cons_zero, List.set_cons_succ])
  go_cut [23] (fun v23 wc => ∃ (kq : Nat) (x23_1 : Bool), v23 = .bool x23_1 ∧ Aside0 (towroperef06_Check.j0 kq x23_1 a0_0 a0_1 a0_2 a0_3 a0_4 a0_5 a0_6 a0_7 a0_8 l0_9 l0_10 = some r) ∧ Aside0 (kq ≤ k) ∧ Aside0 (wc.heap[gb183]? = some (.cells #[.int .u8 a0_0, .int .u16 a0_1, .bool a0_2, .bool a0_3, .int .i64 a0_4, .int .u8 a0_5, .int .u8 a0_6, .int .u32 a0_7, .int .u32 a0_8, (.slice A0_9 l0_9.length c0_9), (.slice A0_10 l0_10.length c0_10)] 68 (0, 0))) ∧ Aside0 (Below w.heap.size w wc))
  case first =>
    have H := HC2.out
    clear HC2
    by_cases c4 : a0_4 < 0
    · rw [if_pos c4] at H
      have c4b0 : decide (a0_4 < 0) = true := decide_eq_true c4
      clear c4
      (first | rw [c4b0] | (simp only [i64_w, i32_w]; rw [c4b0]) | skip)
      have H' := Aside0.mk H
      clear H
      have hcz5_0 : w3.cell? ⟨gb183, 0, none⟩ = some (.int .u8 a0_0) := (blk_cell BK183.out 0).trans rfl
      have hcz5_1 : w3.cell? ⟨gb183, 1, none⟩ = some (.int .u16 a0_1) := (blk_cell BK183.out 1).trans rfl
      have hcz5_2 : w3.cell? ⟨gb183, 2, none⟩ = some (.bool a0_2) := (blk_cell BK183.out 2).trans rfl
      have hcz5_3 : w3.cell? ⟨gb183, 3, none⟩ = some (.bool a0_3) := (blk_cell BK183.out 3).trans rfl
      have hcz5_4 : w3.cell? ⟨gb183, 4, none⟩ = some (.int .i64 a0_4) := (blk_cell BK183.out 4).trans rfl
      have hcz5_5 : w3.cell? ⟨gb183, 5, none⟩ = some (.int .u8 a0_5) := (blk_cell BK183.out 5).trans rfl
      have hcz5_6 : w3.cell? ⟨gb183, 6, none⟩ = some (.int .u8 a0_6) := (blk_cell BK183.out 6).trans rfl
      have hcz5_7 : w3.cell? ⟨gb183, 7, none⟩ = some (.int .u32 a0_7) := (blk_cell BK183.out 7).trans rfl
      have hcz5_8 : w3.cell? ⟨gb183, 8, none⟩ = some (.int .u32 a0_8) := (blk_cell BK183.out 8).trans rfl
      have hcz5_9 : w3.cell? ⟨gb183, 9, none⟩ = some (.slice A0_9 l0_9.length c0_9) := (blk_cell BK183.out 9).trans rfl
      have hcz5_10 : w3.cell? ⟨gb183, 10, none⟩ = some (.slice A0_10 l0_10.length c0_10) := (blk_cell BK183.out 10).trans rfl
      have hfz5_0 := blk_frozen BK183.out 0
      have hfz5_1 := blk_frozen BK183.out 1
      have hfz5_2 := blk_frozen BK183.out 2
      have hfz5_3 := blk_frozen BK183.out 3
      have hfz5_4 := blk_frozen BK183.out 4
      have hfz5_5 := blk_frozen BK183.out 5
      have hfz5_6 := blk_frozen BK183.out 6
      have hfz5_7 := blk_frozen BK183.out 7
      have hfz5_8 := blk_frozen BK183.out 8
      have hfz5_9 := blk_frozen BK183.out 9
      have hfz5_10 := blk_frozen BK183.out 10
      go_wp2
      go_meet
      case rel => exact ⟨_, (true), (by first | rfl | (simp; done) | (simp [*]; done)), H', ⟨by first | omega | exact Nat.le_refl _⟩, ⟨by (with_reducible repeat (first | refine blk_drewN ?_ _ | refine blk_drew ?_ | refine blk_alloc ?_ _)); exact BK183.out⟩, ⟨by repeat (first | (with_reducible first | exact HB.out | apply below_alloc | apply pw_below_drewN | apply below_drew1 | refine below_set ?_ GE183.out) | exact HB.out)⟩⟩
    · rw [if_neg c4] at H
      have c4b0 : decide (a0_4 < 0) = false := decide_eq_false c4
      clear c4
      (first | rw [c4b0] | (simp only [i64_w, i32_w]; rw [c4b0]) | skip)
      by_cases c6 : a0_4 > 8191
      · rw [if_pos c6] at H
        have c6b0 : decide (8191 < a0_4) = true := decide_eq_true c6
        clear c6
        have H' := Aside0.mk H
        clear H
        have hcz7_0 : w3.cell? ⟨gb183, 0, none⟩ = some (.int .u8 a0_0) := (blk_cell BK183.out 0).trans rfl
        have hcz7_1 : w3.cell? ⟨gb183, 1, none⟩ = some (.int .u16 a0_1) := (blk_cell BK183.out 1).trans rfl
        have hcz7_2 : w3.cell? ⟨gb183, 2, none⟩ = some (.bool a0_2) := (blk_cell BK183.out 2).trans rfl
        have hcz7_3 : w3.cell? ⟨gb183, 3, none⟩ = some (.bool a0_3) := (blk_cell BK183.out 3).trans rfl
        have hcz7_4 : w3.cell? ⟨gb183, 4, none⟩ = some (.int .i64 a0_4) := (blk_cell BK183.out 4).trans rfl
        have hcz7_5 : w3.cell? ⟨gb183, 5, none⟩ = some (.int .u8 a0_5) := (blk_cell BK183.out 5).trans rfl
        have hcz7_6 : w3.cell? ⟨gb183, 6, none⟩ = some (.int .u8 a0_6) := (blk_cell BK183.out 6).trans rfl
        have hcz7_7 : w3.cell? ⟨gb183, 7, none⟩ = some (.int .u32 a0_7) := (blk_cell BK183.out 7).trans rfl
        have hcz7_8 : w3.cell? ⟨gb183, 8, none⟩ = some (.int .u32 a0_8) := (blk_cell BK183.out 8).trans rfl
        have hcz7_9 : w3.cell? ⟨gb183, 9, none⟩ = some (.slice A0_9 l0_9.length c0_9) := (blk_cell BK183.out 9).trans rfl
        have hcz7_10 : w3.cell? ⟨gb183, 10, none⟩ = some (.slice A0_10 l0_10.length c0_10) := (blk_cell BK183.out 10).trans rfl
        have hfz7_0 := blk_frozen BK183.out 0
        have hfz7_1 := blk_frozen BK183.out 1
        have hfz7_2 := blk_frozen BK183.out 2
        have hfz7_3 := blk_frozen BK183.out 3
        have hfz7_4 := blk_frozen BK183.out 4
        have hfz7_5 := blk_frozen BK183.out 5
        have hfz7_6 := blk_frozen BK183.out 6
        have hfz7_7 := blk_frozen BK183.out 7
        have hfz7_8 := blk_frozen BK183.out 8
        have hfz7_9 := blk_frozen BK183.out 9
        have hfz7_10 := blk_frozen BK183.out 10
        go_wp2
        go_meet
        case rel => exact ⟨_, (true), (by first | rfl | (simp; done) | (simp [*]; done)), H', ⟨by first | omega | exact Nat.le_refl _⟩, ⟨by (with_reducible repeat (first | refine blk_drewN ?_ _ | refine blk_drew ?_ | refine blk_alloc ?_ _)); exact BK183.out⟩, ⟨by repeat (first | (with_reducible first | exact HB.out | apply below_alloc | apply pw_below_drewN | apply below_drew1 | refine below_set ?_ GE183.out) | exact HB.out)⟩⟩
      · rw [if_neg c6] at H
        have c6b0 : decide (8191 < a0_4) = false := decide_eq_false c6
        clear c6
        by_cases c8 : (l0_9.length : Int) > 40
        · rw [if_pos c8] at H
          have c8b0 : decide (40 < (l0_9.length : Int)) = true := decide_eq_true c8
          have c8b1 : decide (40 < l0_9.length) = true := decide_eq_true (by omega)
          clear c8
          have H' := Aside0.mk H
          clear H
          have hcz9_0 : w3.cell? ⟨gb183, 0, none⟩ = some (.int .u8 a0_0) := (blk_cell BK183.out 0).trans rfl
          have hcz9_1 : w3.cell? ⟨gb183, 1, none⟩ = some (.int .u16 a0_1) := (blk_cell BK183.out 1).trans rfl
          have hcz9_2 : w3.cell? ⟨gb183, 2, none⟩ = some (.bool a0_2) := (blk_cell BK183.out 2).trans rfl
          have hcz9_3 : w3.cell? ⟨gb183, 3, none⟩ = some (.bool a0_3) := (blk_cell BK183.out 3).trans rfl
          have hcz9_4 : w3.cell? ⟨gb183, 4, none⟩ = some (.int .i64 a0_4) := (blk_cell BK183.out 4).trans rfl
          have hcz9_5 : w3.cell? ⟨gb183, 5, none⟩ = some (.int .u8 a0_5) := (blk_cell BK183.out 5).trans rfl
          have hcz9_6 : w3.cell? ⟨gb183, 6, none⟩ = some (.int .u8 a0_6) := (blk_cell BK183.out 6).trans rfl
          have hcz9_7 : w3.cell? ⟨gb183, 7, none⟩ = some (.int .u32 a0_7) := (blk_cell BK183.out 7).trans rfl
          have hcz9_8 : w3.cell? ⟨gb183, 8, none⟩ = some (.int .u32 a0_8) := (blk_cell BK183.out 8).trans rfl
          have hcz9_9 : w3.cell? ⟨gb183, 9, none⟩ = some (.slice A0_9 l0_9.length c0_9) := (blk_cell BK183.out 9).trans rfl
          have hcz9_10 : w3.cell? ⟨gb183, 10, none⟩ = some (.slice A0_10 l0_10.length c0_10) := (blk_cell BK183.out 10).trans rfl
          have hfz9_0 := blk_frozen BK183.out 0
          have hfz9_1 := blk_frozen BK183.out 1
          have hfz9_2 := blk_frozen BK183.out 2
          have hfz9_3 := blk_frozen BK183.out 3
          have hfz9_4 := blk_frozen BK183.out 4
          have hfz9_5 := blk_frozen BK183.out 5
          have hfz9_6 := blk_frozen BK183.out 6
          have hfz9_7 := blk_frozen BK183.out 7
          have hfz9_8 := blk_frozen BK183.out 8
          have hfz9_9 := blk_frozen BK183.out 9
          have hfz9_10 := blk_frozen BK183.out 10
          go_wp2
          go_meet
          case rel => exact ⟨_, (true), (by first | rfl | (simp; done) | (simp [*]; done)), H', ⟨by first | omega | exact Nat.le_refl _⟩, ⟨by (with_reducible repeat (first | refine blk_drewN ?_ _ | refine blk_drew ?_ | refine blk_alloc ?_ _)); exact BK183.out⟩, ⟨by repeat (first | (with_reducible first | exact HB.out | apply below_alloc | apply pw_below_drewN | apply below_drew1 | refine below_set ?_ GE183.out) | exact HB.out)⟩⟩
        · rw [if_neg c8] at H
          have c8b0 : decide (40 < (l0_9.length : Int)) = false := decide_eq_false c8
          have c8b1 : decide (40 < l0_9.length) = false := decide_eq_false (by omega)
          clear c8
          have H' := Aside0.mk H
          clear H
          have hcz10_0 : w3.cell? ⟨gb183, 0, none⟩ = some (.int .u8 a0_0) := (blk_cell BK183.out 0).trans rfl
          have hcz10_1 : w3.cell? ⟨gb183, 1, none⟩ = some (.int .u16 a0_1) := (blk_cell BK183.out 1).trans rfl
          have hcz10_2 : w3.cell? ⟨gb183, 2, none⟩ = some (.bool a0_2) := (blk_cell BK183.out 2).trans rfl
          have hcz10_3 : w3.cell? ⟨gb183, 3, none⟩ = some (.bool a0_3) := (blk_cell BK183.out 3).trans rfl
          have hcz10_4 : w3.cell? ⟨gb183, 4, none⟩ = some (.int .i64 a0_4) := (blk_cell BK183.out 4).trans rfl
          have hcz10_5 : w3.cell? ⟨gb183, 5, none⟩ = some (.int .u8 a0_5) := (blk_cell BK183.out 5).trans rfl
          have hcz10_6 : w3.cell? ⟨gb183, 6, none⟩ = some (.int .u8 a0_6) := (blk_cell BK183.out 6).trans rfl
          have hcz10_7 : w3.cell? ⟨gb183, 7, none⟩ = some (.int .u32 a0_7) := (blk_cell BK183.out 7).trans rfl
          have hcz10_8 : w3.cell? ⟨gb183, 8, none⟩ = some (.int .u32 a0_8) := (blk_cell BK183.out 8).trans rfl
          have hcz10_9 : w3.cell? ⟨gb183, 9, none⟩ = some (.slice A0_9 l0_9.length c0_9) := (blk_cell BK183.out 9).trans rfl
          have hcz10_10 : w3.cell? ⟨gb183, 10, none⟩ = some (.slice A0_10 l0_10.length c0_10) := (blk_cell BK183.out 10).trans rfl
          have hfz10_0 := blk_frozen BK183.out 0
          have hfz10_1 := blk_frozen BK183.out 1
          have hfz10_2 := blk_frozen BK183.out 2
          have hfz10_3 := blk_frozen BK183.out 3
          have hfz10_4 := blk_frozen BK183.out 4
          have hfz10_5 := blk_frozen BK183.out 5
          have hfz10_6 := blk_frozen BK183.out 6
          have hfz10_7 := blk_frozen BK183.out 7
          have hfz10_8 := blk_frozen BK183.out 8
          have hfz10_9 := blk_frozen BK183.out 9
          have hfz10_10 := blk_frozen BK183.out 10
          go_wp2
          go_meet
          case rel => exact ⟨_, ((((l0_9.length : Int) % 4) != 0)), (by first | rfl | (simp; done) | (simp [*]; done)), H', ⟨by first | omega | exact Nat.le_refl _⟩, ⟨by (with_reducible repeat (first | refine blk_drewN ?_ _ | refine blk_drew ?_ | refine blk_alloc ?_ _)); exact BK183.out⟩, ⟨by repeat (first | (with_reducible first | exact HB.out | apply below_alloc | apply pw_below_drewN | apply below_drew1 | refine below_set ?_ GE183.out) | exact HB.out)⟩⟩
  case rest =>
    clear HC2
    try clear p2
    try clear c4
    try clear c4b0
    try clear c6
    try clear c6b0
    try clear c7
    try clear c8
    try clear c8b0
    try clear c8b1
    try clear hcz10_0
    try clear hcz10_1
    try clear hcz10_10
    try clear hcz10_2
    try clear hcz10_3
    try clear hcz10_4
    try clear hcz10_5
    try clear hcz10_6
    try clear hcz10_7
    try clear hcz10_8
    try clear hcz10_9
    try clear hcz5_0
    try clear hcz5_1
    try clear hcz5_10
    try clear hcz5_2
    try clear hcz5_3
    try clear hcz5_4
    try clear hcz5_5
    try clear hcz5_6
    try clear hcz5_7
    try clear hcz5_8
    try clear hcz5_9
    try clear hcz7_0
    try clear hcz7_1
    try clear hcz7_10
    try clear hcz7_2
    try clear hcz7_3
    try clear hcz7_4
    try clear hcz7_5
    try clear hcz7_6
    try clear hcz7_7
    try clear hcz7_8
    try clear hcz7_9
    try clear hcz9_0
    try clear hcz9_1
    try clear hcz9_10
    try clear hcz9_2
    try clear hcz9_3
    try clear hcz9_4
    try clear hcz9_5
    try clear hcz9_6
    try clear hcz9_7
    try clear hcz9_8
    try clear hcz9_9
    try clear hfz10_0
    try clear hfz10_1
    try clear hfz10_10
    try clear hfz10_2
    try clear hfz10_3
    try clear hfz10_4
    try clear hfz10_5
    try clear hfz10_6
    try clear hfz10_7
    try clear hfz10_8
    try clear hfz10_9
    try clear hfz5_0
    try clear hfz5_1
    try clear hfz5_10
    try clear hfz5_2
    try clear hfz5_3
    try clear hfz5_4
    try clear hfz5_5
    try clear hfz5_6
    try clear hfz5_7
    try clear hfz5_8
    try clear hfz5_9
    try clear hfz7_0
    try clear hfz7_1
    try clear hfz7_10
    try clear hfz7_2
    try clear hfz7_3
    try clear hfz7_4
    try clear hfz7_5
    try clear hfz7_6
    try clear hfz7_7
    try clear hfz7_8
    try clear hfz7_9
    try clear hfz9_0
    try clear hfz9_1
    try clear hfz9_10
    try clear hfz9_2
    try clear hfz9_3
    try clear hfz9_4
    try clear hfz9_5
    try clear hfz9_6
    try clear hfz9_7
    try clear hfz9_8
    try clear hfz9_9
    obtain ⟨kq, x23_1, rfl, HA, HJ1, BK183, HB⟩ := hcut
    cases kq with
    | zero => exact absurd HA.out (by simp [towroperef06_Check.j0])
    | succ kj1 =>
      have H := HA.out
      clear HA
      simp only [towroperef06_Check.j0] at H
      by_cases c11 : x23_1 = true
      · subst c11
        have H1 : (some 1) = some r := by rw [if_pos rfl] at H; exact H
        clear H
        have H := H1
        clear H1
        obtain rfl := Option.some.inj H
        go_wp2
        go_ret
        exact ⟨by first | rfl | (simp [errW_none, errW_some] <;> rfl) | (simp [*, errW_none, errW_some] <;> rfl), by repeat (first | (with_reducible first | exact HB.out | apply below_alloc | apply pw_below_drewN | apply below_drew1 | refine below_set ?_ GE183.out) | exact HB.out)⟩
      · replace c11 := Bool.eq_false_iff.mpr c11
        subst c11
        have H1 : ((towroperef06_Len.f a0_0 a0_1 a0_2 a0_3 a0_4 a0_5 a0_6 a0_7 a0_8 l0_9 l0_10).bind fun t184 => (if t184 > 65535 then (some 9) else (some 0))) = some r := by rw [if_neg (show ¬ (false = true) by decide)] at H; exact H
        clear H
        have H := H1
        clear H1
        replace H := Option.bind_eq_some_iff.mp H
        obtain ⟨t184, A120, H⟩ := H
        replace H : (if t184 > 65535 then (some 9) else (some 0)) = some r := H
        have A12 := Aside0.mk A120
        clear A120
        by_cases c13 : t184 > 65535
        · rw [if_pos c13] at H
          have c13b0 : decide (65535 < t184) = true := decide_eq_true c13
          clear c13
          obtain rfl := Option.some.inj H
          have hcz14_0 : wc.cell? ⟨gb183, 0, none⟩ = some (.int .u8 a0_0) := (blk_cell BK183.out 0).trans rfl
          have hcz14_1 : wc.cell? ⟨gb183, 1, none⟩ = some (.int .u16 a0_1) := (blk_cell BK183.out 1).trans rfl
          have hcz14_2 : wc.cell? ⟨gb183, 2, none⟩ = some (.bool a0_2) := (blk_cell BK183.out 2).trans rfl
          have hcz14_3 : wc.cell? ⟨gb183, 3, none⟩ = some (.bool a0_3) := (blk_cell BK183.out 3).trans rfl
          have hcz14_4 : wc.cell? ⟨gb183, 4, none⟩ = some (.int .i64 a0_4) := (blk_cell BK183.out 4).trans rfl
          have hcz14_5 : wc.cell? ⟨gb183, 5, none⟩ = some (.int .u8 a0_5) := (blk_cell BK183.out 5).trans rfl
          have hcz14_6 : wc.cell? ⟨gb183, 6, none⟩ = some (.int .u8 a0_6) := (blk_cell BK183.out 6).trans rfl
          have hcz14_7 : wc.cell? ⟨gb183, 7, none⟩ = some (.int .u32 a0_7) := (blk_cell BK183.out 7).trans rfl
          have hcz14_8 : wc.cell? ⟨gb183, 8, none⟩ = some (.int .u32 a0_8) := (blk_cell BK183.out 8).trans rfl
          have hcz14_9 : wc.cell? ⟨gb183, 9, none⟩ = some (.slice A0_9 l0_9.length c0_9) := (blk_cell BK183.out 9).trans rfl
          have hcz14_10 : wc.cell? ⟨gb183, 10, none⟩ = some (.slice A0_10 l0_10.length c0_10) := (blk_cell BK183.out 10).trans rfl
          have hfz14_0 := blk_frozen BK183.out 0
          have hfz14_1 := blk_frozen BK183.out 1
          have hfz14_2 := blk_frozen BK183.out 2
          have hfz14_3 := blk_frozen BK183.out 3
          have hfz14_4 := blk_frozen BK183.out 4
          have hfz14_5 := blk_frozen BK183.out 5
          have hfz14_6 := blk_frozen BK183.out 6
          have hfz14_7 := blk_frozen BK183.out 7
          have hfz14_8 := blk_frozen BK183.out 8
          have hfz14_9 := blk_frozen BK183.out 9
          have hfz14_10 := blk_frozen BK183.out 10
          go_wp2_with (first | ((with_reducible refine gate_callee (f := 41) rfl ?_); refine goesL_ (some 25) rfl rfl Try.func41 (by kernel_rfl) rfl #[.agg #[.int .u8 a0_0, .int .u16 a0_1, .bool a0_2, .bool a0_3, .int .i64 a0_4, .int .u8 a0_5, .int .u8 a0_6, .int .u32 a0_7, .int .u32 a0_8, .slice A0_9 l0_9.length c0_9, .slice A0_10 l0_10.length c0_10]] rfl (by (try simp only [List.map_toArray, List.map_cons, List.map_nil]); first | done | rfl | (simp only [List.length_drop, List.length_take]; rfl) | (go_simp; done) | (go_simp; omega)) ?_; (with_reducible refine (towroperef06_Len.calls a0_0 a0_1 a0_2 a0_3 a0_4 a0_5 a0_6 a0_7 a0_8 _ _ l0_9 _ _ l0_10 t184 _ ?side1 ?side2 ?side3 ?side4 A12.out).mono ?_); (case side1 => repeat (first | exact (Kd.C_below HR0_9.out HB.out) | (with_reducible refine Kd.C_alloc ?_ _) | (with_reducible refine Kd.C_drewN ?_ _) | (with_reducible refine Kd.C_drew ?_))); (case side2 => exact HC0_9.out); (case side3 => repeat (first | exact (Kd.C_below HR0_10.out HB.out) | (with_reducible refine Kd.C_alloc ?_ _) | (with_reducible refine Kd.C_drewN ?_ _) | (with_reducible refine Kd.C_drew ?_))); (case side4 => exact HC0_10.out); rintro e w15 ⟨rfl, hb⟩; refine ⟨_, rfl, ?_⟩; have n0_ := Aside0.mk (blk_below (g := gb183) (o := .cells #[.int .u8 a0_0, .int .u16 a0_1, .bool a0_2, .bool a0_3, .int .i64 a0_4, .int .u8 a0_5, .int .u8 a0_6, .int .u32 a0_7, .int .u32 a0_8, .slice A0_9 l0_9.length c0_9, .slice A0_10 l0_10.length c0_10] 68 (0, 0)) (by (with_reducible repeat (first | refine blk_drewN ?_ _ | refine blk_drew ?_ | refine blk_alloc ?_ _)); exact BK183.out) hb); have n1_ := Aside0.mk (below_step (by repeat (first | (with_reducible first | exact HB.out | apply below_alloc | apply pw_below_drewN | apply below_drew1 | refine below_set ?_ GE183.out) | exact HB.out)) hb); clear BK183; clear HB; have BK183 := n0_; have HB := n1_; clear n0_ n1_; (try clear hb); (try clear hb2); (try clear hk); (try clear hi)))
          go_ret
          exact ⟨by first | rfl | (simp [errW_none, errW_some] <;> rfl) | (simp [*, errW_none, errW_some] <;> rfl), by repeat (first | (with_reducible first | exact HB.out | apply below_alloc | apply pw_below_drewN | apply below_drew1 | refine below_set ?_ GE183.out) | exact HB.out)⟩
        · rw [if_neg c13] at H
          have c13b0 : decide (65535 < t184) = false := decide_eq_false c13
          clear c13
          obtain rfl := Option.some.inj H
          have hcz16_0 : wc.cell? ⟨gb183, 0, none⟩ = some (.int .u8 a0_0) := (blk_cell BK183.out 0).trans rfl
          have hcz16_1 : wc.cell? ⟨gb183, 1, none⟩ = some (.int .u16 a0_1) := (blk_cell BK183.out 1).trans rfl
          have hcz16_2 : wc.cell? ⟨gb183, 2, none⟩ = some (.bool a0_2) := (blk_cell BK183.out 2).trans rfl
          have hcz16_3 : wc.cell? ⟨gb183, 3, none⟩ = some (.bool a0_3) := (blk_cell BK183.out 3).trans rfl
          have hcz16_4 : wc.cell? ⟨gb183, 4, none⟩ = some (.int .i64 a0_4) := (blk_cell BK183.out 4).trans rfl
          have hcz16_5 : wc.cell? ⟨gb183, 5, none⟩ = some (.int .u8 a0_5) := (blk_cell BK183.out 5).trans rfl
          have hcz16_6 : wc.cell? ⟨gb183, 6, none⟩ = some (.int .u8 a0_6) := (blk_cell BK183.out 6).trans rfl
          have hcz16_7 : wc.cell? ⟨gb183, 7, none⟩ = some (.int .u32 a0_7) := (blk_cell BK183.out 7).trans rfl
          have hcz16_8 : wc.cell? ⟨gb183, 8, none⟩ = some (.int .u32 a0_8) := (blk_cell BK183.out 8).trans rfl
          have hcz16_9 : wc.cell? ⟨gb183, 9, none⟩ = some (.slice A0_9 l0_9.length c0_9) := (blk_cell BK183.out 9).trans rfl
          have hcz16_10 : wc.cell? ⟨gb183, 10, none⟩ = some (.slice A0_10 l0_10.length c0_10) := (blk_cell BK183.out 10).trans rfl
          have hfz16_0 := blk_frozen BK183.out 0
          have hfz16_1 := blk_frozen BK183.out 1
          have hfz16_2 := blk_frozen BK183.out 2
          have hfz16_3 := blk_frozen BK183.out 3
          have hfz16_4 := blk_frozen BK183.out 4
          have hfz16_5 := blk_frozen BK183.out 5
          have hfz16_6 := blk_frozen BK183.out 6
          have hfz16_7 := blk_frozen BK183.out 7
          have hfz16_8 := blk_frozen BK183.out 8
          have hfz16_9 := blk_frozen BK183.out 9
          have hfz16_10 := blk_frozen BK183.out 10
          go_wp2_with (first | ((with_reducible refine gate_callee (f := 41) rfl ?_); refine goesL_ (some 25) rfl rfl Try.func41 (by kernel_rfl) rfl #[.agg #[.int .u8 a0_0, .int .u16 a0_1, .bool a0_2, .bool a0_3, .int .i64 a0_4, .int .u8 a0_5, .int .u8 a0_6, .int .u32 a0_7, .int .u32 a0_8, .slice A0_9 l0_9.length c0_9, .slice A0_10 l0_10.length c0_10]] rfl (by (try simp only [List.map_toArray, List.map_cons, List.map_nil]); first | done | rfl | (simp only [List.length_drop, List.length_take]; rfl) | (go_simp; done) | (go_simp; omega)) ?_; (with_reducible refine (towroperef06_Len.calls a0_0 a0_1 a0_2 a0_3 a0_4 a0_5 a0_6 a0_7 a0_8 _ _ l0_9 _ _ l0_10 t184 _ ?side1 ?side2 ?side3 ?side4 A12.out).mono ?_); (case side1 => repeat (first | exact (Kd.C_below HR0_9.out HB.out) | (with_reducible refine Kd.C_alloc ?_ _) | (with_reducible refine Kd.C_drewN ?_ _) | (with_reducible refine Kd.C_drew ?_))); (case side2 => exact HC0_9.out); (case side3 => repeat (first | exact (Kd.C_below HR0_10.out HB.out) | (with_reducible refine Kd.C_alloc ?_ _) | (with_reducible refine Kd.C_drewN ?_ _) | (with_reducible refine Kd.C_drew ?_))); (case side4 => exact HC0_10.out); rintro e w17 ⟨rfl, hb⟩; refine ⟨_, rfl, ?_⟩; have n0_ := Aside0.mk (blk_below (g := gb183) (o := .cells #[.int .u8 a0_0, .int .u16 a0_1, .bool a0_2, .bool a0_3, .int .i64 a0_4, .int .u8 a0_5, .int .u8 a0_6, .int .u32 a0_7, .int .u32 a0_8, .slice A0_9 l0_9.length c0_9, .slice A0_10 l0_10.length c0_10] 68 (0, 0)) (by (with_reducible repeat (first | refine blk_drewN ?_ _ | refine blk_drew ?_ | refine blk_alloc ?_ _)); exact BK183.out) hb); have n1_ := Aside0.mk (below_step (by repeat (first | (with_reducible first | exact HB.out | apply below_alloc | apply pw_below_drewN | apply below_drew1 | refine below_set ?_ GE183.out) | exact HB.out)) hb); clear BK183; clear HB; have BK183 := n0_; have HB := n1_; clear n0_ n1_; (try clear hb); (try clear hb2); (try clear hk); (try clear hi)))
          go_ret
          exact ⟨by first | rfl | (simp [errW_none, errW_some] <;> rfl) | (simp [*, errW_none, errW_some] <;> rfl), by repeat (first | (with_reducible first | exact HB.out | apply below_alloc | apply pw_below_drewN | apply below_drew1 | refine below_set ?_ GE183.out) | exact HB.out)⟩

end Go.Proofs.Ytfmfpofbefgbgaa.PFrb
