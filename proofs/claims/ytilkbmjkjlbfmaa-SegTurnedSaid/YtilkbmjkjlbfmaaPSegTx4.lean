-- Laid by a program of this session (wip/tools/mk.py) over the kit's print: functions, contracts, walks; not written by hand, not trusted: Lean checks it.
import Derived.Test.YtilkbmjkjlbfmaaPSegTx0
namespace Go.Proofs.Ytilkbmjkjlbfmaa.PSegT
open Go.RowKit Go.Proofs.YtilkbmjkjlbfmaaW.PrintWords Go.Proofs.YtilkbmjkjlbfmaaW.PrintLast Go.Proofs.YtilkbmjkjlbfmaaW.PrintMore
attribute [local go_sem] max2_int min2_int max_two min_two max_three min_three max_four min_four   -- for this text's walks alone
set_option linter.unusedVariables false
set_option linter.unusedSimpArgs false

/-! ### towroperef09_Check: function 53 -/
def towroperef09_Check.j0 : Nat → Bool → Int → Int → Int → Int → Int → Int → Int → Int → List Int → Option (Int)
  | 0, _, _, _, _, _, _, _, _, _, _ => none
  | k + 1, x25, x202000, x202001, x202002, x202003, x202004, x202005, x202006, x202007, x202008 => if x25 = true then (some 1) else (if (x202008.length : Int) > 65455 then (some 9) else (some 0))
def towroperef09_Check.f (k : Nat) (a0_0 : Int) (a0_1 : Int) (a0_2 : Int) (a0_3 : Int) (a0_4 : Int) (a0_5 : Int) (a0_6 : Int) (a0_7 : Int) (l0_8 : List Int) : Option (Int) := if a0_4 > 63 then (towroperef09_Check.j0 k true a0_0 a0_1 a0_2 a0_3 a0_4 a0_5 a0_6 a0_7 l0_8) else (if a0_6 < 0 then (towroperef09_Check.j0 k true a0_0 a0_1 a0_2 a0_3 a0_4 a0_5 a0_6 a0_7 l0_8) else (if a0_6 > 65535 then (towroperef09_Check.j0 k true a0_0 a0_1 a0_2 a0_3 a0_4 a0_5 a0_6 a0_7 l0_8) else (if a0_7 < 0 then (towroperef09_Check.j0 k true a0_0 a0_1 a0_2 a0_3 a0_4 a0_5 a0_6 a0_7 l0_8) else (towroperef09_Check.j0 k (decide (a0_7 > 15)) a0_0 a0_1 a0_2 a0_3 a0_4 a0_5 a0_6 a0_7 l0_8))))
theorem towroperef09_Check.mono_l : ∀ k, (∀ y0 y1 y2 y3 y4 y5 y6 y7 y8 y9, LeO (towroperef09_Check.j0 k y0 y1 y2 y3 y4 y5 y6 y7 y8 y9) (towroperef09_Check.j0 (k + 1) y0 y1 y2 y3 y4 y5 y6 y7 y8 y9))
  | 0 => fun _ _ _ _ _ _ _ _ _ _ r h => by simp [towroperef09_Check.j0] at h
  | k + 1 => by
    have ih0 := towroperef09_Check.mono_l k
    · intro y0 y1 y2 y3 y4 y5 y6 y7 y8 y9
      unfold towroperef09_Check.j0
      repeat' first
      | (with_reducible exact ih0 _ _ _ _ _ _ _ _ _ _)
      | (with_reducible exact LeO.refl _)
      | (with_reducible exact LeO.none _)
      | (with_reducible refine LeO.ite ?_ ?_)
      | (with_reducible refine LeO.bind ?_ (fun _ => ?_))
      | exact ih0 _ _ _ _ _ _ _ _ _ _
      | exact LeO.none _
      | refine LeO.ite ?_ ?_
      | refine LeO.bind ?_ (fun _ => ?_)
theorem towroperef09_Check.mono : ∀ a0 a1 a2 a3 a4 a5 a6 a7 a8 k, LeO (towroperef09_Check.f k a0 a1 a2 a3 a4 a5 a6 a7 a8) (towroperef09_Check.f (k + 1) a0 a1 a2 a3 a4 a5 a6 a7 a8) := by
  intro a0 a1 a2 a3 a4 a5 a6 a7 a8 k
  have ih0 := towroperef09_Check.mono_l k
  unfold towroperef09_Check.f
  repeat' first
      | (with_reducible exact ih0 _ _ _ _ _ _ _ _ _ _)
      | (with_reducible exact LeO.refl _)
      | (with_reducible exact LeO.none _)
      | (with_reducible refine LeO.ite ?_ ?_)
      | (with_reducible refine LeO.bind ?_ (fun _ => ?_))
      | exact ih0 _ _ _ _ _ _ _ _ _ _
      | exact LeO.none _
      | refine LeO.ite ?_ ?_
      | refine LeO.bind ?_ (fun _ => ?_)
set_option maxHeartbeats 8000000 in
set_option maxRecDepth 100000 in
theorem towroperef09_Check.calls (k : Nat) (a0_0 : Int) (a0_1 : Int) (a0_2 : Int) (a0_3 : Int) (a0_4 : Int) (a0_5 : Int) (a0_6 : Int) (a0_7 : Int) (A0_8 : Option Addr) (c0_8 : Nat) (l0_8 : List Int) (r : Int) (w : World) (hr0_8 : Kd.C (Kd.int .u8) w A0_8 l0_8.length l0_8) (hc0_8 : l0_8.length ≤ c0_8) (h : towroperef09_Check.f k a0_0 a0_1 a0_2 a0_3 a0_4 a0_5 a0_6 a0_7 l0_8 = some r) :
    Calls Try.prog 53 #[.agg #[.int .u16 a0_0, .int .u16 a0_1, .int .u32 a0_2, .int .u32 a0_3, .int .u8 a0_4, .int .u16 a0_5, .int .i64 a0_6, .int .i64 a0_7, .slice A0_8 l0_8.length c0_8]] w fun e w' => e = .returned (.int .i64 r) ∧ Below w.heap.size w w' := by
  have hu26 := Try.underlying26
  have HR0_8 := Aside0.mk hr0_8
  have HC0_8 := Aside0.mk hc0_8
  clear hr0_8 hc0_8
  have HB := Aside0.mk (Below.refl w.heap.size w)
  have H : (if a0_4 > 63 then (towroperef09_Check.j0 k true a0_0 a0_1 a0_2 a0_3 a0_4 a0_5 a0_6 a0_7 l0_8) else (if a0_6 < 0 then (towroperef09_Check.j0 k true a0_0 a0_1 a0_2 a0_3 a0_4 a0_5 a0_6 a0_7 l0_8) else (if a0_6 > 65535 then (towroperef09_Check.j0 k true a0_0 a0_1 a0_2 a0_3 a0_4 a0_5 a0_6 a0_7 l0_8) else (if a0_7 < 0 then (towroperef09_Check.j0 k true a0_0 a0_1 a0_2 a0_3 a0_4 a0_5 a0_6 a0_7 l0_8) else (towroperef09_Check.j0 k (decide (a0_7 > 15)) a0_0 a0_1 a0_2 a0_3 a0_4 a0_5 a0_6 a0_7 l0_8))))) = some r := h
  clear h
  have HC2 := Aside0.mk H
  clear H
  go_enter Try.func53, Try.ntmps53
  go_upto_region 1 with (first | ((with_reducible refine gate_dst (N := 1) rfl ?_); refine box_event ?hg (N := 1) ?hd (cs := #[.int .u16 a0_0, .int .u16 a0_1, .int .u32 a0_2, .int .u32 a0_3, .int .u8 a0_4, .int .u16 a0_5, .int .i64 a0_6, .int .i64 a0_7, .slice A0_8 l0_8.length c0_8]) (t := 26) ?hr ?_; (case hd => rfl); (case hg => rfl); (case hr => first | (go_simp; done) | (go_simp; rfl)); intro gb201 hg w3 hbox hb; have n0_ := Aside0.mk (below_step (by repeat (first | (with_reducible first | exact HB.out | apply below_alloc | apply pw_below_drewN | apply below_drew1) | exact HB.out)) hb); have n1_ := Aside0.mk (hbox); have n2_ := Aside0.mk ((by rw [hg]; exact (below_size (by repeat (first | (with_reducible first | exact HB.out | apply below_alloc | apply pw_below_drewN | apply below_drew1) | exact HB.out))) : w.heap.size ≤ gb201)); have n3_ := Aside0.mk ((by rw [hg]; exact (below_size (by repeat (first | (with_reducible first | exact HB.out | apply below_alloc | apply pw_below_drewN | apply below_drew1) | exact HB.out))) : w.heap.size ≤ gb201)); clear HB; have HB := n0_; have BK201 := n1_; have GW201 := n2_; have GE201 := n3_; clear n0_ n1_ n2_ n3_; clear hb hbox hg))
  (try simp only [Act.put, List.setIfInBounds_toArray, List.set_cons_zero, List.set_cons_succ])
  go_cut [25] (fun v25 wc => ∃ (kq : Nat) (x25_1 : Bool), v25 = .bool x25_1 ∧ Aside0 (towroperef09_Check.j0 kq x25_1 a0_0 a0_1 a0_2 a0_3 a0_4 a0_5 a0_6 a0_7 l0_8 = some r) ∧ Aside0 (kq ≤ k) ∧ Aside0 (wc.heap[gb201]? = some (.cells #[.int .u16 a0_0, .int .u16 a0_1, .int .u32 a0_2, .int .u32 a0_3, .int .u8 a0_4, .int .u16 a0_5, .int .i64 a0_6, .int .i64 a0_7, (.slice A0_8 l0_8.length c0_8)] 26 (0, 0))) ∧ Aside0 (Below w.heap.size w wc))
  case first =>
    have H := HC2.out
    clear HC2
    by_cases c4 : a0_4 > 63
    · rw [if_pos c4] at H
      have c4b0 : decide (63 < a0_4) = true := decide_eq_true c4
      clear c4
      (first | rw [c4b0] | (simp only [i64_w, i32_w]; rw [c4b0]) | skip)
      have H' := Aside0.mk H
      clear H
      have hcz5_0 : w3.cell? ⟨gb201, 0, none⟩ = some (.int .u16 a0_0) := (blk_cell BK201.out 0).trans rfl
      have hcz5_1 : w3.cell? ⟨gb201, 1, none⟩ = some (.int .u16 a0_1) := (blk_cell BK201.out 1).trans rfl
      have hcz5_2 : w3.cell? ⟨gb201, 2, none⟩ = some (.int .u32 a0_2) := (blk_cell BK201.out 2).trans rfl
      have hcz5_3 : w3.cell? ⟨gb201, 3, none⟩ = some (.int .u32 a0_3) := (blk_cell BK201.out 3).trans rfl
      have hcz5_4 : w3.cell? ⟨gb201, 4, none⟩ = some (.int .u8 a0_4) := (blk_cell BK201.out 4).trans rfl
      have hcz5_5 : w3.cell? ⟨gb201, 5, none⟩ = some (.int .u16 a0_5) := (blk_cell BK201.out 5).trans rfl
      have hcz5_6 : w3.cell? ⟨gb201, 6, none⟩ = some (.int .i64 a0_6) := (blk_cell BK201.out 6).trans rfl
      have hcz5_7 : w3.cell? ⟨gb201, 7, none⟩ = some (.int .i64 a0_7) := (blk_cell BK201.out 7).trans rfl
      have hcz5_8 : w3.cell? ⟨gb201, 8, none⟩ = some (.slice A0_8 l0_8.length c0_8) := (blk_cell BK201.out 8).trans rfl
      have hfz5_0 := blk_frozen BK201.out 0
      have hfz5_1 := blk_frozen BK201.out 1
      have hfz5_2 := blk_frozen BK201.out 2
      have hfz5_3 := blk_frozen BK201.out 3
      have hfz5_4 := blk_frozen BK201.out 4
      have hfz5_5 := blk_frozen BK201.out 5
      have hfz5_6 := blk_frozen BK201.out 6
      have hfz5_7 := blk_frozen BK201.out 7
      have hfz5_8 := blk_frozen BK201.out 8
      go_wp2
      go_meet
      case rel => exact ⟨_, (true), (by first | rfl | (simp; done) | (simp [*]; done)), H', ⟨by first | omega | exact Nat.le_refl _⟩, ⟨by (with_reducible repeat (first | refine blk_drewN ?_ _ | refine blk_drew ?_ | refine blk_alloc ?_ _)); exact BK201.out⟩, ⟨by repeat (first | (with_reducible first | exact HB.out | apply below_alloc | apply pw_below_drewN | apply below_drew1 | refine below_set ?_ GE201.out) | exact HB.out)⟩⟩
    · rw [if_neg c4] at H
      have c4b0 : decide (63 < a0_4) = false := decide_eq_false c4
      clear c4
      (first | rw [c4b0] | (simp only [i64_w, i32_w]; rw [c4b0]) | skip)
      by_cases c6 : a0_6 < 0
      · rw [if_pos c6] at H
        have c6b0 : decide (a0_6 < 0) = true := decide_eq_true c6
        clear c6
        have H' := Aside0.mk H
        clear H
        have hcz7_0 : w3.cell? ⟨gb201, 0, none⟩ = some (.int .u16 a0_0) := (blk_cell BK201.out 0).trans rfl
        have hcz7_1 : w3.cell? ⟨gb201, 1, none⟩ = some (.int .u16 a0_1) := (blk_cell BK201.out 1).trans rfl
        have hcz7_2 : w3.cell? ⟨gb201, 2, none⟩ = some (.int .u32 a0_2) := (blk_cell BK201.out 2).trans rfl
        have hcz7_3 : w3.cell? ⟨gb201, 3, none⟩ = some (.int .u32 a0_3) := (blk_cell BK201.out 3).trans rfl
        have hcz7_4 : w3.cell? ⟨gb201, 4, none⟩ = some (.int .u8 a0_4) := (blk_cell BK201.out 4).trans rfl
        have hcz7_5 : w3.cell? ⟨gb201, 5, none⟩ = some (.int .u16 a0_5) := (blk_cell BK201.out 5).trans rfl
        have hcz7_6 : w3.cell? ⟨gb201, 6, none⟩ = some (.int .i64 a0_6) := (blk_cell BK201.out 6).trans rfl
        have hcz7_7 : w3.cell? ⟨gb201, 7, none⟩ = some (.int .i64 a0_7) := (blk_cell BK201.out 7).trans rfl
        have hcz7_8 : w3.cell? ⟨gb201, 8, none⟩ = some (.slice A0_8 l0_8.length c0_8) := (blk_cell BK201.out 8).trans rfl
        have hfz7_0 := blk_frozen BK201.out 0
        have hfz7_1 := blk_frozen BK201.out 1
        have hfz7_2 := blk_frozen BK201.out 2
        have hfz7_3 := blk_frozen BK201.out 3
        have hfz7_4 := blk_frozen BK201.out 4
        have hfz7_5 := blk_frozen BK201.out 5
        have hfz7_6 := blk_frozen BK201.out 6
        have hfz7_7 := blk_frozen BK201.out 7
        have hfz7_8 := blk_frozen BK201.out 8
        go_wp2
        go_meet
        case rel => exact ⟨_, (true), (by first | rfl | (simp; done) | (simp [*]; done)), H', ⟨by first | omega | exact Nat.le_refl _⟩, ⟨by (with_reducible repeat (first | refine blk_drewN ?_ _ | refine blk_drew ?_ | refine blk_alloc ?_ _)); exact BK201.out⟩, ⟨by repeat (first | (with_reducible first | exact HB.out | apply below_alloc | apply pw_below_drewN | apply below_drew1 | refine below_set ?_ GE201.out) | exact HB.out)⟩⟩
      · rw [if_neg c6] at H
        have c6b0 : decide (a0_6 < 0) = false := decide_eq_false c6
        clear c6
        by_cases c8 : a0_6 > 65535
        · rw [if_pos c8] at H
          have c8b0 : decide (65535 < a0_6) = true := decide_eq_true c8
          clear c8
          have H' := Aside0.mk H
          clear H
          have hcz9_0 : w3.cell? ⟨gb201, 0, none⟩ = some (.int .u16 a0_0) := (blk_cell BK201.out 0).trans rfl
          have hcz9_1 : w3.cell? ⟨gb201, 1, none⟩ = some (.int .u16 a0_1) := (blk_cell BK201.out 1).trans rfl
          have hcz9_2 : w3.cell? ⟨gb201, 2, none⟩ = some (.int .u32 a0_2) := (blk_cell BK201.out 2).trans rfl
          have hcz9_3 : w3.cell? ⟨gb201, 3, none⟩ = some (.int .u32 a0_3) := (blk_cell BK201.out 3).trans rfl
          have hcz9_4 : w3.cell? ⟨gb201, 4, none⟩ = some (.int .u8 a0_4) := (blk_cell BK201.out 4).trans rfl
          have hcz9_5 : w3.cell? ⟨gb201, 5, none⟩ = some (.int .u16 a0_5) := (blk_cell BK201.out 5).trans rfl
          have hcz9_6 : w3.cell? ⟨gb201, 6, none⟩ = some (.int .i64 a0_6) := (blk_cell BK201.out 6).trans rfl
          have hcz9_7 : w3.cell? ⟨gb201, 7, none⟩ = some (.int .i64 a0_7) := (blk_cell BK201.out 7).trans rfl
          have hcz9_8 : w3.cell? ⟨gb201, 8, none⟩ = some (.slice A0_8 l0_8.length c0_8) := (blk_cell BK201.out 8).trans rfl
          have hfz9_0 := blk_frozen BK201.out 0
          have hfz9_1 := blk_frozen BK201.out 1
          have hfz9_2 := blk_frozen BK201.out 2
          have hfz9_3 := blk_frozen BK201.out 3
          have hfz9_4 := blk_frozen BK201.out 4
          have hfz9_5 := blk_frozen BK201.out 5
          have hfz9_6 := blk_frozen BK201.out 6
          have hfz9_7 := blk_frozen BK201.out 7
          have hfz9_8 := blk_frozen BK201.out 8
          go_wp2
          go_meet
          case rel => exact ⟨_, (true), (by first | rfl | (simp; done) | (simp [*]; done)), H', ⟨by first | omega | exact Nat.le_refl _⟩, ⟨by (with_reducible repeat (first | refine blk_drewN ?_ _ | refine blk_drew ?_ | refine blk_alloc ?_ _)); exact BK201.out⟩, ⟨by repeat (first | (with_reducible first | exact HB.out | apply below_alloc | apply pw_below_drewN | apply below_drew1 | refine below_set ?_ GE201.out) | exact HB.out)⟩⟩
        · rw [if_neg c8] at H
          have c8b0 : decide (65535 < a0_6) = false := decide_eq_false c8
          clear c8
          by_cases c10 : a0_7 < 0
          · rw [if_pos c10] at H
            have c10b0 : decide (a0_7 < 0) = true := decide_eq_true c10
            clear c10
            have H' := Aside0.mk H
            clear H
            have hcz11_0 : w3.cell? ⟨gb201, 0, none⟩ = some (.int .u16 a0_0) := (blk_cell BK201.out 0).trans rfl
            have hcz11_1 : w3.cell? ⟨gb201, 1, none⟩ = some (.int .u16 a0_1) := (blk_cell BK201.out 1).trans rfl
            have hcz11_2 : w3.cell? ⟨gb201, 2, none⟩ = some (.int .u32 a0_2) := (blk_cell BK201.out 2).trans rfl
            have hcz11_3 : w3.cell? ⟨gb201, 3, none⟩ = some (.int .u32 a0_3) := (blk_cell BK201.out 3).trans rfl
            have hcz11_4 : w3.cell? ⟨gb201, 4, none⟩ = some (.int .u8 a0_4) := (blk_cell BK201.out 4).trans rfl
            have hcz11_5 : w3.cell? ⟨gb201, 5, none⟩ = some (.int .u16 a0_5) := (blk_cell BK201.out 5).trans rfl
            have hcz11_6 : w3.cell? ⟨gb201, 6, none⟩ = some (.int .i64 a0_6) := (blk_cell BK201.out 6).trans rfl
            have hcz11_7 : w3.cell? ⟨gb201, 7, none⟩ = some (.int .i64 a0_7) := (blk_cell BK201.out 7).trans rfl
            have hcz11_8 : w3.cell? ⟨gb201, 8, none⟩ = some (.slice A0_8 l0_8.length c0_8) := (blk_cell BK201.out 8).trans rfl
            have hfz11_0 := blk_frozen BK201.out 0
            have hfz11_1 := blk_frozen BK201.out 1
            have hfz11_2 := blk_frozen BK201.out 2
            have hfz11_3 := blk_frozen BK201.out 3
            have hfz11_4 := blk_frozen BK201.out 4
            have hfz11_5 := blk_frozen BK201.out 5
            have hfz11_6 := blk_frozen BK201.out 6
            have hfz11_7 := blk_frozen BK201.out 7
            have hfz11_8 := blk_frozen BK201.out 8
            go_wp2
            go_meet
            case rel => exact ⟨_, (true), (by first | rfl | (simp; done) | (simp [*]; done)), H', ⟨by first | omega | exact Nat.le_refl _⟩, ⟨by (with_reducible repeat (first | refine blk_drewN ?_ _ | refine blk_drew ?_ | refine blk_alloc ?_ _)); exact BK201.out⟩, ⟨by repeat (first | (with_reducible first | exact HB.out | apply below_alloc | apply pw_below_drewN | apply below_drew1 | refine below_set ?_ GE201.out) | exact HB.out)⟩⟩
          · rw [if_neg c10] at H
            have c10b0 : decide (a0_7 < 0) = false := decide_eq_false c10
            clear c10
            have H' := Aside0.mk H
            clear H
            have hcz12_0 : w3.cell? ⟨gb201, 0, none⟩ = some (.int .u16 a0_0) := (blk_cell BK201.out 0).trans rfl
            have hcz12_1 : w3.cell? ⟨gb201, 1, none⟩ = some (.int .u16 a0_1) := (blk_cell BK201.out 1).trans rfl
            have hcz12_2 : w3.cell? ⟨gb201, 2, none⟩ = some (.int .u32 a0_2) := (blk_cell BK201.out 2).trans rfl
            have hcz12_3 : w3.cell? ⟨gb201, 3, none⟩ = some (.int .u32 a0_3) := (blk_cell BK201.out 3).trans rfl
            have hcz12_4 : w3.cell? ⟨gb201, 4, none⟩ = some (.int .u8 a0_4) := (blk_cell BK201.out 4).trans rfl
            have hcz12_5 : w3.cell? ⟨gb201, 5, none⟩ = some (.int .u16 a0_5) := (blk_cell BK201.out 5).trans rfl
            have hcz12_6 : w3.cell? ⟨gb201, 6, none⟩ = some (.int .i64 a0_6) := (blk_cell BK201.out 6).trans rfl
            have hcz12_7 : w3.cell? ⟨gb201, 7, none⟩ = some (.int .i64 a0_7) := (blk_cell BK201.out 7).trans rfl
            have hcz12_8 : w3.cell? ⟨gb201, 8, none⟩ = some (.slice A0_8 l0_8.length c0_8) := (blk_cell BK201.out 8).trans rfl
            have hfz12_0 := blk_frozen BK201.out 0
            have hfz12_1 := blk_frozen BK201.out 1
            have hfz12_2 := blk_frozen BK201.out 2
            have hfz12_3 := blk_frozen BK201.out 3
            have hfz12_4 := blk_frozen BK201.out 4
            have hfz12_5 := blk_frozen BK201.out 5
            have hfz12_6 := blk_frozen BK201.out 6
            have hfz12_7 := blk_frozen BK201.out 7
            have hfz12_8 := blk_frozen BK201.out 8
            go_wp2
            go_meet
            case rel => exact ⟨_, (decide (a0_7 > 15)), (by first | rfl | (simp; done) | (simp [*]; done)), H', ⟨by first | omega | exact Nat.le_refl _⟩, ⟨by (with_reducible repeat (first | refine blk_drewN ?_ _ | refine blk_drew ?_ | refine blk_alloc ?_ _)); exact BK201.out⟩, ⟨by repeat (first | (with_reducible first | exact HB.out | apply below_alloc | apply pw_below_drewN | apply below_drew1 | refine below_set ?_ GE201.out) | exact HB.out)⟩⟩
  case rest =>
    clear HC2
    try clear c1
    try clear p2
    try clear c4
    try clear c4b0
    try clear c5
    try clear c6
    try clear c6b0
    try clear c8
    try clear c8b0
    try clear c10
    try clear c10b0
    try clear hcz11_0
    try clear hcz11_1
    try clear hcz11_2
    try clear hcz11_3
    try clear hcz11_4
    try clear hcz11_5
    try clear hcz11_6
    try clear hcz11_7
    try clear hcz11_8
    try clear hcz12_0
    try clear hcz12_1
    try clear hcz12_2
    try clear hcz12_3
    try clear hcz12_4
    try clear hcz12_5
    try clear hcz12_6
    try clear hcz12_7
    try clear hcz12_8
    try clear hcz5_0
    try clear hcz5_1
    try clear hcz5_2
    try clear hcz5_3
    try clear hcz5_4
    try clear hcz5_5
    try clear hcz5_6
    try clear hcz5_7
    try clear hcz5_8
    try clear hcz7_0
    try clear hcz7_1
    try clear hcz7_2
    try clear hcz7_3
    try clear hcz7_4
    try clear hcz7_5
    try clear hcz7_6
    try clear hcz7_7
    try clear hcz7_8
    try clear hcz9_0
    try clear hcz9_1
    try clear hcz9_2
    try clear hcz9_3
    try clear hcz9_4
    try clear hcz9_5
    try clear hcz9_6
    try clear hcz9_7
    try clear hcz9_8
    try clear hfz11_0
    try clear hfz11_1
    try clear hfz11_2
    try clear hfz11_3
    try clear hfz11_4
    try clear hfz11_5
    try clear hfz11_6
    try clear hfz11_7
    try clear hfz11_8
    try clear hfz12_0
    try clear hfz12_1
    try clear hfz12_2
    try clear hfz12_3
    try clear hfz12_4
    try clear hfz12_5
    try clear hfz12_6
    try clear hfz12_7
    try clear hfz12_8
    try clear hfz5_0
    try clear hfz5_1
    try clear hfz5_2
    try clear hfz5_3
    try clear hfz5_4
    try clear hfz5_5
    try clear hfz5_6
    try clear hfz5_7
    try clear hfz5_8
    try clear hfz7_0
    try clear hfz7_1
    try clear hfz7_2
    try clear hfz7_3
    try clear hfz7_4
    try clear hfz7_5
    try clear hfz7_6
    try clear hfz7_7
    try clear hfz7_8
    try clear hfz9_0
    try clear hfz9_1
    try clear hfz9_2
    try clear hfz9_3
    try clear hfz9_4
    try clear hfz9_5
    try clear hfz9_6
    try clear hfz9_7
    try clear hfz9_8
    obtain ⟨kq, x25_1, rfl, HA, HJ1, BK201, HB⟩ := hcut
    cases kq with
    | zero => exact absurd HA.out (by simp [towroperef09_Check.j0])
    | succ kj1 =>
      have H := HA.out
      clear HA
      simp only [towroperef09_Check.j0] at H
      by_cases c13 : x25_1 = true
      · subst c13
        have H1 : (some 1) = some r := by rw [if_pos rfl] at H; exact H
        clear H
        have H := H1
        clear H1
        obtain rfl := Option.some.inj H
        go_wp2
        go_ret
        exact ⟨by first | rfl | (simp [errW_none, errW_some] <;> rfl) | (simp [*, errW_none, errW_some] <;> rfl), by repeat (first | (with_reducible first | exact HB.out | apply below_alloc | apply pw_below_drewN | apply below_drew1 | refine below_set ?_ GE201.out) | exact HB.out)⟩
      · replace c13 := Bool.eq_false_iff.mpr c13
        subst c13
        have H1 : (if (l0_8.length : Int) > 65455 then (some 9) else (some 0)) = some r := by rw [if_neg (show ¬ (false = true) by decide)] at H; exact H
        clear H
        have H := H1
        clear H1
        by_cases c14 : (l0_8.length : Int) > 65455
        · rw [if_pos c14] at H
          have c14b0 : decide (65455 < (l0_8.length : Int)) = true := decide_eq_true c14
          have c14b1 : decide (65455 < l0_8.length) = true := decide_eq_true (by omega)
          clear c14
          obtain rfl := Option.some.inj H
          have hcz15_0 : wc.cell? ⟨gb201, 0, none⟩ = some (.int .u16 a0_0) := (blk_cell BK201.out 0).trans rfl
          have hcz15_1 : wc.cell? ⟨gb201, 1, none⟩ = some (.int .u16 a0_1) := (blk_cell BK201.out 1).trans rfl
          have hcz15_2 : wc.cell? ⟨gb201, 2, none⟩ = some (.int .u32 a0_2) := (blk_cell BK201.out 2).trans rfl
          have hcz15_3 : wc.cell? ⟨gb201, 3, none⟩ = some (.int .u32 a0_3) := (blk_cell BK201.out 3).trans rfl
          have hcz15_4 : wc.cell? ⟨gb201, 4, none⟩ = some (.int .u8 a0_4) := (blk_cell BK201.out 4).trans rfl
          have hcz15_5 : wc.cell? ⟨gb201, 5, none⟩ = some (.int .u16 a0_5) := (blk_cell BK201.out 5).trans rfl
          have hcz15_6 : wc.cell? ⟨gb201, 6, none⟩ = some (.int .i64 a0_6) := (blk_cell BK201.out 6).trans rfl
          have hcz15_7 : wc.cell? ⟨gb201, 7, none⟩ = some (.int .i64 a0_7) := (blk_cell BK201.out 7).trans rfl
          have hcz15_8 : wc.cell? ⟨gb201, 8, none⟩ = some (.slice A0_8 l0_8.length c0_8) := (blk_cell BK201.out 8).trans rfl
          have hfz15_0 := blk_frozen BK201.out 0
          have hfz15_1 := blk_frozen BK201.out 1
          have hfz15_2 := blk_frozen BK201.out 2
          have hfz15_3 := blk_frozen BK201.out 3
          have hfz15_4 := blk_frozen BK201.out 4
          have hfz15_5 := blk_frozen BK201.out 5
          have hfz15_6 := blk_frozen BK201.out 6
          have hfz15_7 := blk_frozen BK201.out 7
          have hfz15_8 := blk_frozen BK201.out 8
          go_wp2
          go_ret
          exact ⟨by first | rfl | (simp [errW_none, errW_some] <;> rfl) | (simp [*, errW_none, errW_some] <;> rfl), by repeat (first | (with_reducible first | exact HB.out | apply below_alloc | apply pw_below_drewN | apply below_drew1 | refine below_set ?_ GE201.out) | exact HB.out)⟩
        · rw [if_neg c14] at H
          have c14b0 : decide (65455 < (l0_8.length : Int)) = false := decide_eq_false c14
          have c14b1 : decide (65455 < l0_8.length) = false := decide_eq_false (by omega)
          clear c14
          obtain rfl := Option.some.inj H
          have hcz16_0 : wc.cell? ⟨gb201, 0, none⟩ = some (.int .u16 a0_0) := (blk_cell BK201.out 0).trans rfl
          have hcz16_1 : wc.cell? ⟨gb201, 1, none⟩ = some (.int .u16 a0_1) := (blk_cell BK201.out 1).trans rfl
          have hcz16_2 : wc.cell? ⟨gb201, 2, none⟩ = some (.int .u32 a0_2) := (blk_cell BK201.out 2).trans rfl
          have hcz16_3 : wc.cell? ⟨gb201, 3, none⟩ = some (.int .u32 a0_3) := (blk_cell BK201.out 3).trans rfl
          have hcz16_4 : wc.cell? ⟨gb201, 4, none⟩ = some (.int .u8 a0_4) := (blk_cell BK201.out 4).trans rfl
          have hcz16_5 : wc.cell? ⟨gb201, 5, none⟩ = some (.int .u16 a0_5) := (blk_cell BK201.out 5).trans rfl
          have hcz16_6 : wc.cell? ⟨gb201, 6, none⟩ = some (.int .i64 a0_6) := (blk_cell BK201.out 6).trans rfl
          have hcz16_7 : wc.cell? ⟨gb201, 7, none⟩ = some (.int .i64 a0_7) := (blk_cell BK201.out 7).trans rfl
          have hcz16_8 : wc.cell? ⟨gb201, 8, none⟩ = some (.slice A0_8 l0_8.length c0_8) := (blk_cell BK201.out 8).trans rfl
          have hfz16_0 := blk_frozen BK201.out 0
          have hfz16_1 := blk_frozen BK201.out 1
          have hfz16_2 := blk_frozen BK201.out 2
          have hfz16_3 := blk_frozen BK201.out 3
          have hfz16_4 := blk_frozen BK201.out 4
          have hfz16_5 := blk_frozen BK201.out 5
          have hfz16_6 := blk_frozen BK201.out 6
          have hfz16_7 := blk_frozen BK201.out 7
          have hfz16_8 := blk_frozen BK201.out 8
          go_wp2
          go_ret
          exact ⟨by first | rfl | (simp [errW_none, errW_some] <;> rfl) | (simp [*, errW_none, errW_some] <;> rfl), by repeat (first | (with_reducible first | exact HB.out | apply below_alloc | apply pw_below_drewN | apply below_drew1 | refine below_set ?_ GE201.out) | exact HB.out)⟩

end Go.Proofs.Ytilkbmjkjlbfmaa.PSegT
