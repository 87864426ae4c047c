-- Laid by a program of this session (wip/tools/mk.py) over the kit's print: functions, contracts, walks; not written by hand, not trusted: Lean checks it.
import Derived.Test.YtilkbmjkjlbfmaaPEntx0
import Derived.Test.YtilkbmjkjlbfmaaPEntx6
namespace Go.Proofs.Ytilkbmjkjlbfmaa.PEnt
open Go.RowKit Go.Proofs.YtilkbmjkjlbfmaaW.PrintWords Go.Proofs.YtilkbmjkjlbfmaaW.PrintLast Go.Proofs.YtilkbmjkjlbfmaaW.PrintMore
attribute [local go_sem] max2_int min2_int max_two min_two max_three min_three max_four min_four   -- for this text's walks alone
set_option linter.unusedVariables false
set_option linter.unusedSimpArgs false

/-! ### entry_Check: function 36 -/
mutual
def entry_Check.j0 : Nat → Bool → Int → Int → Int → Int → Int → Int → Int → Int → Int → Int → List Int → Option (Int)
  | 0, _, _, _, _, _, _, _, _, _, _, _, _ => none
  | k + 1, x3, x205000, x205001, x205002, x205003, x205004, x205005, x205006, x205007, x205008, x205009, x205010 => if x205000 = 7 then (if (Go.bits .and .u8 x205001 8) = 0 then (if x3 = true then (entry_Check.j1 k true x205000 x205001 x205002 x205003 x205004 x205005 x205006 x205007 x205008 x205009 x205010) else (if x205005 < 1 then (entry_Check.j1 k true x205000 x205001 x205002 x205003 x205004 x205005 x205006 x205007 x205008 x205009 x205010) else (entry_Check.j1 k (decide (x205005 > 65536)) x205000 x205001 x205002 x205003 x205004 x205005 x205006 x205007 x205008 x205009 x205010))) else (if x3 = true then (entry_Check.j1 k true x205000 x205001 x205002 x205003 x205004 x205005 x205006 x205007 x205008 x205009 x205010) else (if x205005 < 0 then (entry_Check.j1 k true x205000 x205001 x205002 x205003 x205004 x205005 x205006 x205007 x205008 x205009 x205010) else (entry_Check.j1 k (decide (x205005 > 65536)) x205000 x205001 x205002 x205003 x205004 x205005 x205006 x205007 x205008 x205009 x205010)))) else (if x205000 = 10 then (if x3 = true then (entry_Check.j1 k true x205000 x205001 x205002 x205003 x205004 x205005 x205006 x205007 x205008 x205009 x205010) else (entry_Check.j1 k (decide (x205008 > 1073741824)) x205000 x205001 x205002 x205003 x205004 x205005 x205006 x205007 x205008 x205009 x205010)) else (if x205000 = 11 then (if x3 = true then (entry_Check.j1 k true x205000 x205001 x205002 x205003 x205004 x205005 x205006 x205007 x205008 x205009 x205010) else (entry_Check.j1 k (decide (x205008 > 1073741824)) x205000 x205001 x205002 x205003 x205004 x205005 x205006 x205007 x205008 x205009 x205010)) else (entry_Check.j1 k x3 x205000 x205001 x205002 x205003 x205004 x205005 x205006 x205007 x205008 x205009 x205010)))
def entry_Check.j1 : Nat → Bool → Int → Int → Int → Int → Int → Int → Int → Int → Int → Int → List Int → Option (Int)
  | 0, _, _, _, _, _, _, _, _, _, _, _, _ => none
  | k + 1, x3, x205000, x205001, x205002, x205003, x205004, x205005, x205006, x205007, x205008, x205009, x205010 => if x205000 = 6 then (if x3 = true then (some 260) else (if (x205010.length : Int) > 65536 then (some 260) else (some 0))) else (if x3 = true then (some 260) else (if (x205010.length : Int) > 0 then (some 260) else (some 0)))
end
def entry_Check.f (k : Nat) (a0_0 : Int) (a0_1 : Int) (a0_2 : Int) (a0_3 : Int) (a0_4 : Int) (a0_5 : Int) (a0_6 : Int) (a0_7 : Int) (a0_8 : Int) (a0_9 : Int) (l0_10 : List Int) : Option (Int) := if a0_0 ≥ 14 then (entry_Check.j0 k true a0_0 a0_1 a0_2 a0_3 a0_4 a0_5 a0_6 a0_7 a0_8 a0_9 l0_10) else (if a0_1 > 31 then (entry_Check.j0 k true a0_0 a0_1 a0_2 a0_3 a0_4 a0_5 a0_6 a0_7 a0_8 a0_9 l0_10) else (if (Go.bits .and .u8 a0_1 3) = 3 then (entry_Check.j0 k true a0_0 a0_1 a0_2 a0_3 a0_4 a0_5 a0_6 a0_7 a0_8 a0_9 l0_10) else ((entry_allowed.f a0_0).bind fun t205 => (entry_Check.j0 k ((Go.bits .andNot .u8 a0_1 (Go.bits .or .u8 3 t205)) != 0) a0_0 a0_1 a0_2 a0_3 a0_4 a0_5 a0_6 a0_7 a0_8 a0_9 l0_10))))
theorem entry_Check.mono_l : ∀ k, (∀ y0 y1 y2 y3 y4 y5 y6 y7 y8 y9 y10 y11, LeO (entry_Check.j0 k y0 y1 y2 y3 y4 y5 y6 y7 y8 y9 y10 y11) (entry_Check.j0 (k + 1) y0 y1 y2 y3 y4 y5 y6 y7 y8 y9 y10 y11)) ∧ (∀ y0 y1 y2 y3 y4 y5 y6 y7 y8 y9 y10 y11, LeO (entry_Check.j1 k y0 y1 y2 y3 y4 y5 y6 y7 y8 y9 y10 y11) (entry_Check.j1 (k + 1) y0 y1 y2 y3 y4 y5 y6 y7 y8 y9 y10 y11))
  | 0 => ⟨fun _ _ _ _ _ _ _ _ _ _ _ _ r h => by simp [entry_Check.j0] at h, fun _ _ _ _ _ _ _ _ _ _ _ _ r h => by simp [entry_Check.j1] at h⟩
  | k + 1 => by
    obtain ⟨ih0, ih1⟩ := entry_Check.mono_l k
    refine ⟨?_, ?_⟩
    · intro y0 y1 y2 y3 y4 y5 y6 y7 y8 y9 y10 y11
      unfold entry_Check.j0
      repeat' first
      | (with_reducible exact ih0 _ _ _ _ _ _ _ _ _ _ _ _)
      | (with_reducible exact ih1 _ _ _ _ _ _ _ _ _ _ _ _)
      | (with_reducible exact LeO.refl _)
      | (with_reducible exact LeO.none _)
      | (with_reducible refine LeO.ite ?_ ?_)
      | (with_reducible refine LeO.bind ?_ (fun _ => ?_))
      | exact ih0 _ _ _ _ _ _ _ _ _ _ _ _
      | exact ih1 _ _ _ _ _ _ _ _ _ _ _ _
      | exact LeO.none _
      | refine LeO.ite ?_ ?_
      | refine LeO.bind ?_ (fun _ => ?_)
    · intro y0 y1 y2 y3 y4 y5 y6 y7 y8 y9 y10 y11
      unfold entry_Check.j1
      repeat' first
      | (with_reducible exact ih0 _ _ _ _ _ _ _ _ _ _ _ _)
      | (with_reducible exact ih1 _ _ _ _ _ _ _ _ _ _ _ _)
      | (with_reducible exact LeO.refl _)
      | (with_reducible exact LeO.none _)
      | (with_reducible refine LeO.ite ?_ ?_)
      | (with_reducible refine LeO.bind ?_ (fun _ => ?_))
      | exact ih0 _ _ _ _ _ _ _ _ _ _ _ _
      | exact ih1 _ _ _ _ _ _ _ _ _ _ _ _
      | exact LeO.none _
      | refine LeO.ite ?_ ?_
      | refine LeO.bind ?_ (fun _ => ?_)
theorem entry_Check.mono : ∀ a0 a1 a2 a3 a4 a5 a6 a7 a8 a9 a10 k, LeO (entry_Check.f k a0 a1 a2 a3 a4 a5 a6 a7 a8 a9 a10) (entry_Check.f (k + 1) a0 a1 a2 a3 a4 a5 a6 a7 a8 a9 a10) := by
  intro a0 a1 a2 a3 a4 a5 a6 a7 a8 a9 a10 k
  obtain ⟨ih0, ih1⟩ := entry_Check.mono_l k
  unfold entry_Check.f
  repeat' first
      | (with_reducible exact ih0 _ _ _ _ _ _ _ _ _ _ _ _)
      | (with_reducible exact ih1 _ _ _ _ _ _ _ _ _ _ _ _)
      | (with_reducible exact LeO.refl _)
      | (with_reducible exact LeO.none _)
      | (with_reducible refine LeO.ite ?_ ?_)
      | (with_reducible refine LeO.bind ?_ (fun _ => ?_))
      | exact ih0 _ _ _ _ _ _ _ _ _ _ _ _
      | exact ih1 _ _ _ _ _ _ _ _ _ _ _ _
      | exact LeO.none _
      | refine LeO.ite ?_ ?_
      | refine LeO.bind ?_ (fun _ => ?_)
set_option maxHeartbeats 8000000 in
set_option maxRecDepth 100000 in
theorem entry_Check.calls (k : Nat) (a0_0 : Int) (a0_1 : Int) (a0_2 : Int) (a0_3 : Int) (a0_4 : Int) (a0_5 : Int) (a0_6 : Int) (a0_7 : Int) (a0_8 : Int) (a0_9 : Int) (A0_10 : Option Addr) (c0_10 : Nat) (l0_10 : List Int) (r : Int) (w : World) (hr0_10 : Kd.C (Kd.int .u8) w A0_10 l0_10.length l0_10) (hc0_10 : l0_10.length ≤ c0_10) (h : entry_Check.f k a0_0 a0_1 a0_2 a0_3 a0_4 a0_5 a0_6 a0_7 a0_8 a0_9 l0_10 = some r) :
    Calls Try.prog 36 #[.agg #[.int .u8 a0_0, .int .u8 a0_1, .int .i64 a0_2, .int .u32 a0_3, .int .u16 a0_4, .int .i64 a0_5, .int .i64 a0_6, .int .i64 a0_7, .int .u64 a0_8, .int .u64 a0_9, .slice A0_10 l0_10.length c0_10]] w fun e w' => e = .returned (.int .i64 r) ∧ Below w.heap.size w w' := by
  have hu50 := Try.underlying50
  have HR0_10 := Aside0.mk hr0_10
  have HC0_10 := Aside0.mk hc0_10
  clear hr0_10 hc0_10
  have HB := Aside0.mk (Below.refl w.heap.size w)
  have H : (if a0_0 ≥ 14 then (entry_Check.j0 k true a0_0 a0_1 a0_2 a0_3 a0_4 a0_5 a0_6 a0_7 a0_8 a0_9 l0_10) else (if a0_1 > 31 then (entry_Check.j0 k true a0_0 a0_1 a0_2 a0_3 a0_4 a0_5 a0_6 a0_7 a0_8 a0_9 l0_10) else (if (Go.bits .and .u8 a0_1 3) = 3 then (entry_Check.j0 k true a0_0 a0_1 a0_2 a0_3 a0_4 a0_5 a0_6 a0_7 a0_8 a0_9 l0_10) else ((entry_allowed.f a0_0).bind fun t205 => (entry_Check.j0 k ((Go.bits .andNot .u8 a0_1 (Go.bits .or .u8 3 t205)) != 0) a0_0 a0_1 a0_2 a0_3 a0_4 a0_5 a0_6 a0_7 a0_8 a0_9 l0_10))))) = some r := h
  clear h
  have HC2 := Aside0.mk H
  clear H
  go_enter Try.func36, Try.ntmps36
  go_upto_region 1 with (first | ((with_reducible refine gate_dst (N := 1) rfl ?_); (try (refine gate_guard (by rfl) ?_; dsimp only)); refine box_event ?hg (N := 1) ?hd (cs := #[.int .u8 a0_0, .int .u8 a0_1, .int .i64 a0_2, .int .u32 a0_3, .int .u16 a0_4, .int .i64 a0_5, .int .i64 a0_6, .int .i64 a0_7, .int .u64 a0_8, .int .u64 a0_9, .slice A0_10 l0_10.length c0_10]) (t := 50) ?hr ?_; (case hd => rfl); (case hg => rfl); (case hr => first | (go_simp; done) | (go_simp; rfl)); intro gb204 hg w3 hbox hb; have n0_ := Aside0.mk (below_step (by repeat (first | (with_reducible first | exact HB.out | apply below_alloc | apply pw_below_drewN | apply below_drew1) | exact HB.out)) hb); have n1_ := Aside0.mk (hbox); have n2_ := Aside0.mk ((by rw [hg]; exact (below_size (by repeat (first | (with_reducible first | exact HB.out | apply below_alloc | apply pw_below_drewN | apply below_drew1) | exact HB.out))) : w.heap.size ≤ gb204)); have n3_ := Aside0.mk ((by rw [hg]; exact (below_size (by repeat (first | (with_reducible first | exact HB.out | apply below_alloc | apply pw_below_drewN | apply below_drew1) | exact HB.out))) : w.heap.size ≤ gb204)); clear HB; have HB := n0_; have BK204 := n1_; have GW204 := n2_; have GE204 := n3_; clear n0_ n1_ n2_ n3_; clear hb hbox hg))
  repeat (go_quiet (first | ((with_reducible refine gate_dst (N := 1) rfl ?_); (try (refine gate_guard (by rfl) ?_; dsimp only)); refine box_event ?hg (N := 1) ?hd (cs := #[.int .u8 a0_0, .int .u8 a0_1, .int .i64 a0_2, .int .u32 a0_3, .int .u16 a0_4, .int .i64 a0_5, .int .i64 a0_6, .int .i64 a0_7, .int .u64 a0_8, .int .u64 a0_9, .slice A0_10 l0_10.length c0_10]) (t := 50) ?hr ?_; (case hd => rfl); (case hg => rfl); (case hr => first | (go_simp; done) | (go_simp; rfl)); intro gb204 hg w3 hbox hb; have n0_ := Aside0.mk (below_step (by repeat (first | (with_reducible first | exact HB.out | apply below_alloc | apply pw_below_drewN | apply below_drew1) | exact HB.out)) hb); have n1_ := Aside0.mk (hbox); have n2_ := Aside0.mk ((by rw [hg]; exact (below_size (by repeat (first | (with_reducible first | exact HB.out | apply below_alloc | apply pw_below_drewN | apply below_drew1) | exact HB.out))) : w.heap.size ≤ gb204)); have n3_ := Aside0.mk ((by rw [hg]; exact (below_size (by repeat (first | (with_reducible first | exact HB.out | apply below_alloc | apply pw_below_drewN | apply below_drew1) | exact HB.out))) : w.heap.size ≤ gb204)); clear HB; have HB := n0_; have BK204 := n1_; have GW204 := n2_; have GE204 := n3_; clear n0_ n1_ n2_ n3_; clear hb hbox hg)); go_upto_region 1 with (first | ((with_reducible refine gate_dst (N := 1) rfl ?_); (try (refine gate_guard (by rfl) ?_; dsimp only)); refine box_event ?hg (N := 1) ?hd (cs := #[.int .u8 a0_0, .int .u8 a0_1, .int .i64 a0_2, .int .u32 a0_3, .int .u16 a0_4, .int .i64 a0_5, .int .i64 a0_6, .int .i64 a0_7, .int .u64 a0_8, .int .u64 a0_9, .slice A0_10 l0_10.length c0_10]) (t := 50) ?hr ?_; (case hd => rfl); (case hg => rfl); (case hr => first | (go_simp; done) | (go_simp; rfl)); intro gb204 hg w3 hbox hb; have n0_ := Aside0.mk (below_step (by repeat (first | (with_reducible first | exact HB.out | apply below_alloc | apply pw_below_drewN | apply below_drew1) | exact HB.out)) hb); have n1_ := Aside0.mk (hbox); have n2_ := Aside0.mk ((by rw [hg]; exact (below_size (by repeat (first | (with_reducible first | exact HB.out | apply below_alloc | apply pw_below_drewN | apply below_drew1) | exact HB.out))) : w.heap.size ≤ gb204)); have n3_ := Aside0.mk ((by rw [hg]; exact (below_size (by repeat (first | (with_reducible first | exact HB.out | apply below_alloc | apply pw_below_drewN | apply below_drew1) | exact HB.out))) : w.heap.size ≤ gb204)); clear HB; have HB := n0_; have BK204 := n1_; have GW204 := n2_; have GE204 := n3_; clear n0_ n1_ n2_ n3_; clear hb hbox hg)))
  (try simp only [Act.put, List.setIfInBounds_toArray, List.set_cons_zero, List.set_cons_succ])
  go_cut [3] (fun v3 wc => ∃ (kq : Nat) (x3_1 : Bool), v3 = .bool x3_1 ∧ Aside0 (entry_Check.j0 kq x3_1 a0_0 a0_1 a0_2 a0_3 a0_4 a0_5 a0_6 a0_7 a0_8 a0_9 l0_10 = some r) ∧ Aside0 (kq ≤ k) ∧ Aside0 (wc.heap[gb204]? = some (.cells #[.int .u8 a0_0, .int .u8 a0_1, .int .i64 a0_2, .int .u32 a0_3, .int .u16 a0_4, .int .i64 a0_5, .int .i64 a0_6, .int .i64 a0_7, .int .u64 a0_8, .int .u64 a0_9, (.slice A0_10 l0_10.length c0_10)] 50 (0, 0))) ∧ Aside0 (Below w.heap.size w wc))
  case first =>
    have H := HC2.out
    clear HC2
    by_cases c4 : a0_0 ≥ 14
    · rw [if_pos c4] at H
      have c4b0 : decide (14 ≤ a0_0) = true := decide_eq_true c4
      clear c4
      (first | rw [c4b0] | (simp only [i64_w, i32_w]; rw [c4b0]) | skip)
      have H' := Aside0.mk H
      clear H
      have hcz5_0 : w3.cell? ⟨gb204, 0, none⟩ = some (.int .u8 a0_0) := (blk_cell BK204.out 0).trans rfl
      have hcz5_1 : w3.cell? ⟨gb204, 1, none⟩ = some (.int .u8 a0_1) := (blk_cell BK204.out 1).trans rfl
      have hcz5_2 : w3.cell? ⟨gb204, 2, none⟩ = some (.int .i64 a0_2) := (blk_cell BK204.out 2).trans rfl
      have hcz5_3 : w3.cell? ⟨gb204, 3, none⟩ = some (.int .u32 a0_3) := (blk_cell BK204.out 3).trans rfl
      have hcz5_4 : w3.cell? ⟨gb204, 4, none⟩ = some (.int .u16 a0_4) := (blk_cell BK204.out 4).trans rfl
      have hcz5_5 : w3.cell? ⟨gb204, 5, none⟩ = some (.int .i64 a0_5) := (blk_cell BK204.out 5).trans rfl
      have hcz5_6 : w3.cell? ⟨gb204, 6, none⟩ = some (.int .i64 a0_6) := (blk_cell BK204.out 6).trans rfl
      have hcz5_7 : w3.cell? ⟨gb204, 7, none⟩ = some (.int .i64 a0_7) := (blk_cell BK204.out 7).trans rfl
      have hcz5_8 : w3.cell? ⟨gb204, 8, none⟩ = some (.int .u64 a0_8) := (blk_cell BK204.out 8).trans rfl
      have hcz5_9 : w3.cell? ⟨gb204, 9, none⟩ = some (.int .u64 a0_9) := (blk_cell BK204.out 9).trans rfl
      have hcz5_10 : w3.cell? ⟨gb204, 10, none⟩ = some (.slice A0_10 l0_10.length c0_10) := (blk_cell BK204.out 10).trans rfl
      have hfz5_0 := blk_frozen BK204.out 0
      have hfz5_1 := blk_frozen BK204.out 1
      have hfz5_2 := blk_frozen BK204.out 2
      have hfz5_3 := blk_frozen BK204.out 3
      have hfz5_4 := blk_frozen BK204.out 4
      have hfz5_5 := blk_frozen BK204.out 5
      have hfz5_6 := blk_frozen BK204.out 6
      have hfz5_7 := blk_frozen BK204.out 7
      have hfz5_8 := blk_frozen BK204.out 8
      have hfz5_9 := blk_frozen BK204.out 9
      have hfz5_10 := blk_frozen BK204.out 10
      go_wp2
      repeat (go_quiet (fail); try go_wp2)
      go_meet
      case rel => exact ⟨_, (true), (by first | rfl | (simp; done) | (simp [*]; done)), H', ⟨by first | omega | exact Nat.le_refl _⟩, ⟨by (with_reducible repeat (first | refine blk_drewN ?_ _ | refine blk_drew ?_ | refine blk_alloc ?_ _)); exact BK204.out⟩, ⟨by repeat (first | (with_reducible first | exact HB.out | apply below_alloc | apply pw_below_drewN | apply below_drew1 | refine below_set ?_ GE204.out) | exact HB.out)⟩⟩
    · rw [if_neg c4] at H
      have c4b0 : decide (14 ≤ a0_0) = false := decide_eq_false c4
      clear c4
      (first | rw [c4b0] | (simp only [i64_w, i32_w]; rw [c4b0]) | skip)
      by_cases c6 : a0_1 > 31
      · rw [if_pos c6] at H
        have c6b0 : decide (31 < a0_1) = true := decide_eq_true c6
        clear c6
        have H' := Aside0.mk H
        clear H
        have hcz7_0 : w3.cell? ⟨gb204, 0, none⟩ = some (.int .u8 a0_0) := (blk_cell BK204.out 0).trans rfl
        have hcz7_1 : w3.cell? ⟨gb204, 1, none⟩ = some (.int .u8 a0_1) := (blk_cell BK204.out 1).trans rfl
        have hcz7_2 : w3.cell? ⟨gb204, 2, none⟩ = some (.int .i64 a0_2) := (blk_cell BK204.out 2).trans rfl
        have hcz7_3 : w3.cell? ⟨gb204, 3, none⟩ = some (.int .u32 a0_3) := (blk_cell BK204.out 3).trans rfl
        have hcz7_4 : w3.cell? ⟨gb204, 4, none⟩ = some (.int .u16 a0_4) := (blk_cell BK204.out 4).trans rfl
        have hcz7_5 : w3.cell? ⟨gb204, 5, none⟩ = some (.int .i64 a0_5) := (blk_cell BK204.out 5).trans rfl
        have hcz7_6 : w3.cell? ⟨gb204, 6, none⟩ = some (.int .i64 a0_6) := (blk_cell BK204.out 6).trans rfl
        have hcz7_7 : w3.cell? ⟨gb204, 7, none⟩ = some (.int .i64 a0_7) := (blk_cell BK204.out 7).trans rfl
        have hcz7_8 : w3.cell? ⟨gb204, 8, none⟩ = some (.int .u64 a0_8) := (blk_cell BK204.out 8).trans rfl
        have hcz7_9 : w3.cell? ⟨gb204, 9, none⟩ = some (.int .u64 a0_9) := (blk_cell BK204.out 9).trans rfl
        have hcz7_10 : w3.cell? ⟨gb204, 10, none⟩ = some (.slice A0_10 l0_10.length c0_10) := (blk_cell BK204.out 10).trans rfl
        have hfz7_0 := blk_frozen BK204.out 0
        have hfz7_1 := blk_frozen BK204.out 1
        have hfz7_2 := blk_frozen BK204.out 2
        have hfz7_3 := blk_frozen BK204.out 3
        have hfz7_4 := blk_frozen BK204.out 4
        have hfz7_5 := blk_frozen BK204.out 5
        have hfz7_6 := blk_frozen BK204.out 6
        have hfz7_7 := blk_frozen BK204.out 7
        have hfz7_8 := blk_frozen BK204.out 8
        have hfz7_9 := blk_frozen BK204.out 9
        have hfz7_10 := blk_frozen BK204.out 10
        go_wp2
        repeat (go_quiet (fail); try go_wp2)
        go_meet
        case rel => exact ⟨_, (true), (by first | rfl | (simp; done) | (simp [*]; done)), H', ⟨by first | omega | exact Nat.le_refl _⟩, ⟨by (with_reducible repeat (first | refine blk_drewN ?_ _ | refine blk_drew ?_ | refine blk_alloc ?_ _)); exact BK204.out⟩, ⟨by repeat (first | (with_reducible first | exact HB.out | apply below_alloc | apply pw_below_drewN | apply below_drew1 | refine below_set ?_ GE204.out) | exact HB.out)⟩⟩
      · rw [if_neg c6] at H
        have c6b0 : decide (31 < a0_1) = false := decide_eq_false c6
        clear c6
        by_cases c8 : (Go.bits .and .u8 a0_1 3) = 3
        · rw [if_pos c8] at H
          have c8b0 : ((Go.bits .and .u8 a0_1 3) == 3) = true := beq_iff_eq.mpr c8
          have c8b1 : ((Go.bits .and .u8 a0_1 3) != 3) = false := bne_eq_false_iff_eq.mpr c8
          clear c8
          have H' := Aside0.mk H
          clear H
          have hcz9_0 : w3.cell? ⟨gb204, 0, none⟩ = some (.int .u8 a0_0) := (blk_cell BK204.out 0).trans rfl
          have hcz9_1 : w3.cell? ⟨gb204, 1, none⟩ = some (.int .u8 a0_1) := (blk_cell BK204.out 1).trans rfl
          have hcz9_2 : w3.cell? ⟨gb204, 2, none⟩ = some (.int .i64 a0_2) := (blk_cell BK204.out 2).trans rfl
          have hcz9_3 : w3.cell? ⟨gb204, 3, none⟩ = some (.int .u32 a0_3) := (blk_cell BK204.out 3).trans rfl
          have hcz9_4 : w3.cell? ⟨gb204, 4, none⟩ = some (.int .u16 a0_4) := (blk_cell BK204.out 4).trans rfl
          have hcz9_5 : w3.cell? ⟨gb204, 5, none⟩ = some (.int .i64 a0_5) := (blk_cell BK204.out 5).trans rfl
          have hcz9_6 : w3.cell? ⟨gb204, 6, none⟩ = some (.int .i64 a0_6) := (blk_cell BK204.out 6).trans rfl
          have hcz9_7 : w3.cell? ⟨gb204, 7, none⟩ = some (.int .i64 a0_7) := (blk_cell BK204.out 7).trans rfl
          have hcz9_8 : w3.cell? ⟨gb204, 8, none⟩ = some (.int .u64 a0_8) := (blk_cell BK204.out 8).trans rfl
          have hcz9_9 : w3.cell? ⟨gb204, 9, none⟩ = some (.int .u64 a0_9) := (blk_cell BK204.out 9).trans rfl
          have hcz9_10 : w3.cell? ⟨gb204, 10, none⟩ = some (.slice A0_10 l0_10.length c0_10) := (blk_cell BK204.out 10).trans rfl
          have hfz9_0 := blk_frozen BK204.out 0
          have hfz9_1 := blk_frozen BK204.out 1
          have hfz9_2 := blk_frozen BK204.out 2
          have hfz9_3 := blk_frozen BK204.out 3
          have hfz9_4 := blk_frozen BK204.out 4
          have hfz9_5 := blk_frozen BK204.out 5
          have hfz9_6 := blk_frozen BK204.out 6
          have hfz9_7 := blk_frozen BK204.out 7
          have hfz9_8 := blk_frozen BK204.out 8
          have hfz9_9 := blk_frozen BK204.out 9
          have hfz9_10 := blk_frozen BK204.out 10
          go_wp2
          repeat (go_quiet (fail); try go_wp2)
          go_meet
          case rel => exact ⟨_, (true), (by first | rfl | (simp; done) | (simp [*]; done)), H', ⟨by first | omega | exact Nat.le_refl _⟩, ⟨by (with_reducible repeat (first | refine blk_drewN ?_ _ | refine blk_drew ?_ | refine blk_alloc ?_ _)); exact BK204.out⟩, ⟨by repeat (first | (with_reducible first | exact HB.out | apply below_alloc | apply pw_below_drewN | apply below_drew1 | refine below_set ?_ GE204.out) | exact HB.out)⟩⟩
        · rw [if_neg c8] at H
          have c8b0 : ((Go.bits .and .u8 a0_1 3) == 3) = false := beq_eq_false_iff_ne.mpr c8
          have c8b1 : ((Go.bits .and .u8 a0_1 3) != 3) = true := bne_iff_ne.mpr c8
          replace H := Option.bind_eq_some_iff.mp H
          obtain ⟨t205, A100, H⟩ := H
          replace H : (entry_Check.j0 k ((Go.bits .andNot .u8 a0_1 (Go.bits .or .u8 3 t205)) != 0) a0_0 a0_1 a0_2 a0_3 a0_4 a0_5 a0_6 a0_7 a0_8 a0_9 l0_10) = some r := H
          have A10 := Aside0.mk A100
          clear A100
          have H' := Aside0.mk H
          clear H
          have hcz11_0 : w3.cell? ⟨gb204, 0, none⟩ = some (.int .u8 a0_0) := (blk_cell BK204.out 0).trans rfl
          have hcz11_1 : w3.cell? ⟨gb204, 1, none⟩ = some (.int .u8 a0_1) := (blk_cell BK204.out 1).trans rfl
          have hcz11_2 : w3.cell? ⟨gb204, 2, none⟩ = some (.int .i64 a0_2) := (blk_cell BK204.out 2).trans rfl
          have hcz11_3 : w3.cell? ⟨gb204, 3, none⟩ = some (.int .u32 a0_3) := (blk_cell BK204.out 3).trans rfl
          have hcz11_4 : w3.cell? ⟨gb204, 4, none⟩ = some (.int .u16 a0_4) := (blk_cell BK204.out 4).trans rfl
          have hcz11_5 : w3.cell? ⟨gb204, 5, none⟩ = some (.int .i64 a0_5) := (blk_cell BK204.out 5).trans rfl
          have hcz11_6 : w3.cell? ⟨gb204, 6, none⟩ = some (.int .i64 a0_6) := (blk_cell BK204.out 6).trans rfl
          have hcz11_7 : w3.cell? ⟨gb204, 7, none⟩ = some (.int .i64 a0_7) := (blk_cell BK204.out 7).trans rfl
          have hcz11_8 : w3.cell? ⟨gb204, 8, none⟩ = some (.int .u64 a0_8) := (blk_cell BK204.out 8).trans rfl
          have hcz11_9 : w3.cell? ⟨gb204, 9, none⟩ = some (.int .u64 a0_9) := (blk_cell BK204.out 9).trans rfl
          have hcz11_10 : w3.cell? ⟨gb204, 10, none⟩ = some (.slice A0_10 l0_10.length c0_10) := (blk_cell BK204.out 10).trans rfl
          have hfz11_0 := blk_frozen BK204.out 0
          have hfz11_1 := blk_frozen BK204.out 1
          have hfz11_2 := blk_frozen BK204.out 2
          have hfz11_3 := blk_frozen BK204.out 3
          have hfz11_4 := blk_frozen BK204.out 4
          have hfz11_5 := blk_frozen BK204.out 5
          have hfz11_6 := blk_frozen BK204.out 6
          have hfz11_7 := blk_frozen BK204.out 7
          have hfz11_8 := blk_frozen BK204.out 8
          have hfz11_9 := blk_frozen BK204.out 9
          have hfz11_10 := blk_frozen BK204.out 10
          go_wp2_with (first | (go_at_call 62; (with_reducible refine (entry_allowed.calls a0_0 t205 _ A10.out).mono ?_); rintro e w' ⟨rfl, ⟨nd, rfl⟩⟩; (try first | exact ⟨rfl, _, World.drewN_drewN _ _ _⟩ | exact ⟨rfl, _, Eq.trans (World.drewN_drewN _ _ _) (congrArg (World.drewN _) (Nat.add_assoc _ _ _))⟩)))
          repeat (go_quiet (first | (go_at_call 62; (with_reducible refine (entry_allowed.calls a0_0 t205 _ A10.out).mono ?_); rintro e w' ⟨rfl, ⟨nd, rfl⟩⟩; (try first | exact ⟨rfl, _, World.drewN_drewN _ _ _⟩ | exact ⟨rfl, _, Eq.trans (World.drewN_drewN _ _ _) (congrArg (World.drewN _) (Nat.add_assoc _ _ _))⟩))); try go_wp2_with (first | (go_at_call 62; (with_reducible refine (entry_allowed.calls a0_0 t205 _ A10.out).mono ?_); rintro e w' ⟨rfl, ⟨nd, rfl⟩⟩; (try first | exact ⟨rfl, _, World.drewN_drewN _ _ _⟩ | exact ⟨rfl, _, Eq.trans (World.drewN_drewN _ _ _) (congrArg (World.drewN _) (Nat.add_assoc _ _ _))⟩))))
          go_meet
          case rel => exact ⟨_, (((Go.bits .andNot .u8 a0_1 (Go.bits .or .u8 3 t205)) != 0)), (by first | rfl | (simp; done) | (simp [*]; done)), H', ⟨by first | omega | exact Nat.le_refl _⟩, ⟨by (with_reducible repeat (first | refine blk_drewN ?_ _ | refine blk_drew ?_ | refine blk_alloc ?_ _)); exact BK204.out⟩, ⟨by repeat (first | (with_reducible first | exact HB.out | apply below_alloc | apply pw_below_drewN | apply below_drew1 | refine below_set ?_ GE204.out) | exact HB.out)⟩⟩
  case rest =>
    clear HC2
    try clear p2
    try clear c3
    try clear c4
    try clear c4b0
    try clear c6
    try clear c6b0
    try clear c8
    try clear c8b0
    try clear c8b1
    try clear hcz11_0
    try clear hcz11_1
    try clear hcz11_10
    try clear hcz11_2
    try clear hcz11_3
    try clear hcz11_4
    try clear hcz11_5
    try clear hcz11_6
    try clear hcz11_7
    try clear hcz11_8
    try clear hcz11_9
    try clear hcz5_0
    try clear hcz5_1
    try clear hcz5_10
    try clear hcz5_2
    try clear hcz5_3
    try clear hcz5_4
    try clear hcz5_5
    try clear hcz5_6
    try clear hcz5_7
    try clear hcz5_8
    try clear hcz5_9
    try clear hcz7_0
    try clear hcz7_1
    try clear hcz7_10
    try clear hcz7_2
    try clear hcz7_3
    try clear hcz7_4
    try clear hcz7_5
    try clear hcz7_6
    try clear hcz7_7
    try clear hcz7_8
    try clear hcz7_9
    try clear hcz9_0
    try clear hcz9_1
    try clear hcz9_10
    try clear hcz9_2
    try clear hcz9_3
    try clear hcz9_4
    try clear hcz9_5
    try clear hcz9_6
    try clear hcz9_7
    try clear hcz9_8
    try clear hcz9_9
    try clear hfz11_0
    try clear hfz11_1
    try clear hfz11_10
    try clear hfz11_2
    try clear hfz11_3
    try clear hfz11_4
    try clear hfz11_5
    try clear hfz11_6
    try clear hfz11_7
    try clear hfz11_8
    try clear hfz11_9
    try clear hfz5_0
    try clear hfz5_1
    try clear hfz5_10
    try clear hfz5_2
    try clear hfz5_3
    try clear hfz5_4
    try clear hfz5_5
    try clear hfz5_6
    try clear hfz5_7
    try clear hfz5_8
    try clear hfz5_9
    try clear hfz7_0
    try clear hfz7_1
    try clear hfz7_10
    try clear hfz7_2
    try clear hfz7_3
    try clear hfz7_4
    try clear hfz7_5
    try clear hfz7_6
    try clear hfz7_7
    try clear hfz7_8
    try clear hfz7_9
    try clear hfz9_0
    try clear hfz9_1
    try clear hfz9_10
    try clear hfz9_2
    try clear hfz9_3
    try clear hfz9_4
    try clear hfz9_5
    try clear hfz9_6
    try clear hfz9_7
    try clear hfz9_8
    try clear hfz9_9
    obtain ⟨kq, x3_1, rfl, HA, HJ1, BK204, HB⟩ := hcut
    cases kq with
    | zero => exact absurd HA.out (by simp [entry_Check.j0])
    | succ kj1 =>
      have H := HA.out
      clear HA
      simp only [entry_Check.j0] at H
      have HC12 := Aside0.mk H
      clear H
      have hcz13_0 : wc.cell? ⟨gb204, 0, none⟩ = some (.int .u8 a0_0) := (blk_cell BK204.out 0).trans rfl
      have hcz13_1 : wc.cell? ⟨gb204, 1, none⟩ = some (.int .u8 a0_1) := (blk_cell BK204.out 1).trans rfl
      have hcz13_2 : wc.cell? ⟨gb204, 2, none⟩ = some (.int .i64 a0_2) := (blk_cell BK204.out 2).trans rfl
      have hcz13_3 : wc.cell? ⟨gb204, 3, none⟩ = some (.int .u32 a0_3) := (blk_cell BK204.out 3).trans rfl
      have hcz13_4 : wc.cell? ⟨gb204, 4, none⟩ = some (.int .u16 a0_4) := (blk_cell BK204.out 4).trans rfl
      have hcz13_5 : wc.cell? ⟨gb204, 5, none⟩ = some (.int .i64 a0_5) := (blk_cell BK204.out 5).trans rfl
      have hcz13_6 : wc.cell? ⟨gb204, 6, none⟩ = some (.int .i64 a0_6) := (blk_cell BK204.out 6).trans rfl
      have hcz13_7 : wc.cell? ⟨gb204, 7, none⟩ = some (.int .i64 a0_7) := (blk_cell BK204.out 7).trans rfl
      have hcz13_8 : wc.cell? ⟨gb204, 8, none⟩ = some (.int .u64 a0_8) := (blk_cell BK204.out 8).trans rfl
      have hcz13_9 : wc.cell? ⟨gb204, 9, none⟩ = some (.int .u64 a0_9) := (blk_cell BK204.out 9).trans rfl
      have hcz13_10 : wc.cell? ⟨gb204, 10, none⟩ = some (.slice A0_10 l0_10.length c0_10) := (blk_cell BK204.out 10).trans rfl
      have hfz13_0 := blk_frozen BK204.out 0
      have hfz13_1 := blk_frozen BK204.out 1
      have hfz13_2 := blk_frozen BK204.out 2
      have hfz13_3 := blk_frozen BK204.out 3
      have hfz13_4 := blk_frozen BK204.out 4
      have hfz13_5 := blk_frozen BK204.out 5
      have hfz13_6 := blk_frozen BK204.out 6
      have hfz13_7 := blk_frozen BK204.out 7
      have hfz13_8 := blk_frozen BK204.out 8
      have hfz13_9 := blk_frozen BK204.out 9
      have hfz13_10 := blk_frozen BK204.out 10
      go_upto_block 0 with (fail)
      repeat (go_quiet (fail); go_upto_block 0 with (fail))
      go_cut [3] (fun v3 wc => ∃ (kq : Nat) (x3_11 : Bool), v3 = .bool x3_11 ∧ Aside0 (entry_Check.j1 kq x3_11 a0_0 a0_1 a0_2 a0_3 a0_4 a0_5 a0_6 a0_7 a0_8 a0_9 l0_10 = some r) ∧ Aside0 (kq ≤ kj1) ∧ Aside0 (wc.heap[gb204]? = some (.cells #[.int .u8 a0_0, .int .u8 a0_1, .int .i64 a0_2, .int .u32 a0_3, .int .u16 a0_4, .int .i64 a0_5, .int .i64 a0_6, .int .i64 a0_7, .int .u64 a0_8, .int .u64 a0_9, (.slice A0_10 l0_10.length c0_10)] 50 (0, 0))) ∧ Aside0 (Below w.heap.size w wc))
      case first =>
        have H := HC12.out
        clear HC12
        by_cases c14 : a0_0 = 7
        · rw [if_pos c14] at H
          have c14b0 : (a0_0 == 7) = true := beq_iff_eq.mpr c14
          have c14b1 : (a0_0 != 7) = false := bne_eq_false_iff_eq.mpr c14
          clear c14
          (first | rw [c14b0] | (simp only [i64_w, i32_w]; rw [c14b0]) | skip)
          by_cases c15 : (Go.bits .and .u8 a0_1 8) = 0
          · rw [if_pos c15] at H
            have c15b0 : ((Go.bits .and .u8 a0_1 8) == 0) = true := beq_iff_eq.mpr c15
            have c15b1 : ((Go.bits .and .u8 a0_1 8) != 0) = false := bne_eq_false_iff_eq.mpr c15
            clear c15
            by_cases c16 : x3_1 = true
            · subst c16
              have H1 : (entry_Check.j1 kj1 true a0_0 a0_1 a0_2 a0_3 a0_4 a0_5 a0_6 a0_7 a0_8 a0_9 l0_10) = some r := by rw [if_pos rfl] at H; exact H
              clear H
              have H := H1
              clear H1
              have H' := Aside0.mk H
              clear H
              have hcz17_0 : wc.cell? ⟨gb204, 0, none⟩ = some (.int .u8 a0_0) := (blk_cell BK204.out 0).trans rfl
              have hcz17_1 : wc.cell? ⟨gb204, 1, none⟩ = some (.int .u8 a0_1) := (blk_cell BK204.out 1).trans rfl
              have hcz17_2 : wc.cell? ⟨gb204, 2, none⟩ = some (.int .i64 a0_2) := (blk_cell BK204.out 2).trans rfl
              have hcz17_3 : wc.cell? ⟨gb204, 3, none⟩ = some (.int .u32 a0_3) := (blk_cell BK204.out 3).trans rfl
              have hcz17_4 : wc.cell? ⟨gb204, 4, none⟩ = some (.int .u16 a0_4) := (blk_cell BK204.out 4).trans rfl
              have hcz17_5 : wc.cell? ⟨gb204, 5, none⟩ = some (.int .i64 a0_5) := (blk_cell BK204.out 5).trans rfl
              have hcz17_6 : wc.cell? ⟨gb204, 6, none⟩ = some (.int .i64 a0_6) := (blk_cell BK204.out 6).trans rfl
              have hcz17_7 : wc.cell? ⟨gb204, 7, none⟩ = some (.int .i64 a0_7) := (blk_cell BK204.out 7).trans rfl
              have hcz17_8 : wc.cell? ⟨gb204, 8, none⟩ = some (.int .u64 a0_8) := (blk_cell BK204.out 8).trans rfl
              have hcz17_9 : wc.cell? ⟨gb204, 9, none⟩ = some (.int .u64 a0_9) := (blk_cell BK204.out 9).trans rfl
              have hcz17_10 : wc.cell? ⟨gb204, 10, none⟩ = some (.slice A0_10 l0_10.length c0_10) := (blk_cell BK204.out 10).trans rfl
              have hfz17_0 := blk_frozen BK204.out 0
              have hfz17_1 := blk_frozen BK204.out 1
              have hfz17_2 := blk_frozen BK204.out 2
              have hfz17_3 := blk_frozen BK204.out 3
              have hfz17_4 := blk_frozen BK204.out 4
              have hfz17_5 := blk_frozen BK204.out 5
              have hfz17_6 := blk_frozen BK204.out 6
              have hfz17_7 := blk_frozen BK204.out 7
              have hfz17_8 := blk_frozen BK204.out 8
              have hfz17_9 := blk_frozen BK204.out 9
              have hfz17_10 := blk_frozen BK204.out 10
              go_wp2
              repeat (go_quiet (fail); try go_wp2)
              go_meet
              case rel => exact ⟨_, (true), (by first | rfl | (simp; done) | (simp [*]; done)), H', ⟨by have := HJ1.out; first | omega | exact Nat.le_refl _⟩, ⟨by (with_reducible repeat (first | refine blk_drewN ?_ _ | refine blk_drew ?_ | refine blk_alloc ?_ _)); exact BK204.out⟩, ⟨by repeat (first | (with_reducible first | exact HB.out | apply below_alloc | apply pw_below_drewN | apply below_drew1 | refine below_set ?_ GE204.out) | exact HB.out)⟩⟩
            · replace c16 := Bool.eq_false_iff.mpr c16
              subst c16
              have H1 : (if a0_5 < 1 then (entry_Check.j1 kj1 true a0_0 a0_1 a0_2 a0_3 a0_4 a0_5 a0_6 a0_7 a0_8 a0_9 l0_10) else (entry_Check.j1 kj1 (decide (a0_5 > 65536)) a0_0 a0_1 a0_2 a0_3 a0_4 a0_5 a0_6 a0_7 a0_8 a0_9 l0_10)) = some r := by rw [if_neg (show ¬ (false = true) by decide)] at H; exact H
              clear H
              have H := H1
              clear H1
              by_cases c18 : a0_5 < 1
              · rw [if_pos c18] at H
                have c18b0 : decide (a0_5 < 1) = true := decide_eq_true c18
                clear c18
                have H' := Aside0.mk H
                clear H
                have hcz19_0 : wc.cell? ⟨gb204, 0, none⟩ = some (.int .u8 a0_0) := (blk_cell BK204.out 0).trans rfl
                have hcz19_1 : wc.cell? ⟨gb204, 1, none⟩ = some (.int .u8 a0_1) := (blk_cell BK204.out 1).trans rfl
                have hcz19_2 : wc.cell? ⟨gb204, 2, none⟩ = some (.int .i64 a0_2) := (blk_cell BK204.out 2).trans rfl
                have hcz19_3 : wc.cell? ⟨gb204, 3, none⟩ = some (.int .u32 a0_3) := (blk_cell BK204.out 3).trans rfl
                have hcz19_4 : wc.cell? ⟨gb204, 4, none⟩ = some (.int .u16 a0_4) := (blk_cell BK204.out 4).trans rfl
                have hcz19_5 : wc.cell? ⟨gb204, 5, none⟩ = some (.int .i64 a0_5) := (blk_cell BK204.out 5).trans rfl
                have hcz19_6 : wc.cell? ⟨gb204, 6, none⟩ = some (.int .i64 a0_6) := (blk_cell BK204.out 6).trans rfl
                have hcz19_7 : wc.cell? ⟨gb204, 7, none⟩ = some (.int .i64 a0_7) := (blk_cell BK204.out 7).trans rfl
                have hcz19_8 : wc.cell? ⟨gb204, 8, none⟩ = some (.int .u64 a0_8) := (blk_cell BK204.out 8).trans rfl
                have hcz19_9 : wc.cell? ⟨gb204, 9, none⟩ = some (.int .u64 a0_9) := (blk_cell BK204.out 9).trans rfl
                have hcz19_10 : wc.cell? ⟨gb204, 10, none⟩ = some (.slice A0_10 l0_10.length c0_10) := (blk_cell BK204.out 10).trans rfl
                have hfz19_0 := blk_frozen BK204.out 0
                have hfz19_1 := blk_frozen BK204.out 1
                have hfz19_2 := blk_frozen BK204.out 2
                have hfz19_3 := blk_frozen BK204.out 3
                have hfz19_4 := blk_frozen BK204.out 4
                have hfz19_5 := blk_frozen BK204.out 5
                have hfz19_6 := blk_frozen BK204.out 6
                have hfz19_7 := blk_frozen BK204.out 7
                have hfz19_8 := blk_frozen BK204.out 8
                have hfz19_9 := blk_frozen BK204.out 9
                have hfz19_10 := blk_frozen BK204.out 10
                go_wp2
                repeat (go_quiet (fail); try go_wp2)
                go_meet
                case rel => exact ⟨_, (true), (by first | rfl | (simp; done) | (simp [*]; done)), H', ⟨by have := HJ1.out; first | omega | exact Nat.le_refl _⟩, ⟨by (with_reducible repeat (first | refine blk_drewN ?_ _ | refine blk_drew ?_ | refine blk_alloc ?_ _)); exact BK204.out⟩, ⟨by repeat (first | (with_reducible first | exact HB.out | apply below_alloc | apply pw_below_drewN | apply below_drew1 | refine below_set ?_ GE204.out) | exact HB.out)⟩⟩
              · rw [if_neg c18] at H
                have c18b0 : decide (a0_5 < 1) = false := decide_eq_false c18
                clear c18
                have H' := Aside0.mk H
                clear H
                have hcz20_0 : wc.cell? ⟨gb204, 0, none⟩ = some (.int .u8 a0_0) := (blk_cell BK204.out 0).trans rfl
                have hcz20_1 : wc.cell? ⟨gb204, 1, none⟩ = some (.int .u8 a0_1) := (blk_cell BK204.out 1).trans rfl
                have hcz20_2 : wc.cell? ⟨gb204, 2, none⟩ = some (.int .i64 a0_2) := (blk_cell BK204.out 2).trans rfl
                have hcz20_3 : wc.cell? ⟨gb204, 3, none⟩ = some (.int .u32 a0_3) := (blk_cell BK204.out 3).trans rfl
                have hcz20_4 : wc.cell? ⟨gb204, 4, none⟩ = some (.int .u16 a0_4) := (blk_cell BK204.out 4).trans rfl
                have hcz20_5 : wc.cell? ⟨gb204, 5, none⟩ = some (.int .i64 a0_5) := (blk_cell BK204.out 5).trans rfl
                have hcz20_6 : wc.cell? ⟨gb204, 6, none⟩ = some (.int .i64 a0_6) := (blk_cell BK204.out 6).trans rfl
                have hcz20_7 : wc.cell? ⟨gb204, 7, none⟩ = some (.int .i64 a0_7) := (blk_cell BK204.out 7).trans rfl
                have hcz20_8 : wc.cell? ⟨gb204, 8, none⟩ = some (.int .u64 a0_8) := (blk_cell BK204.out 8).trans rfl
                have hcz20_9 : wc.cell? ⟨gb204, 9, none⟩ = some (.int .u64 a0_9) := (blk_cell BK204.out 9).trans rfl
                have hcz20_10 : wc.cell? ⟨gb204, 10, none⟩ = some (.slice A0_10 l0_10.length c0_10) := (blk_cell BK204.out 10).trans rfl
                have hfz20_0 := blk_frozen BK204.out 0
                have hfz20_1 := blk_frozen BK204.out 1
                have hfz20_2 := blk_frozen BK204.out 2
                have hfz20_3 := blk_frozen BK204.out 3
                have hfz20_4 := blk_frozen BK204.out 4
                have hfz20_5 := blk_frozen BK204.out 5
                have hfz20_6 := blk_frozen BK204.out 6
                have hfz20_7 := blk_frozen BK204.out 7
                have hfz20_8 := blk_frozen BK204.out 8
                have hfz20_9 := blk_frozen BK204.out 9
                have hfz20_10 := blk_frozen BK204.out 10
                go_wp2
                repeat (go_quiet (fail); try go_wp2)
                go_meet
                case rel => exact ⟨_, (decide (a0_5 > 65536)), (by first | rfl | (simp; done) | (simp [*]; done)), H', ⟨by have := HJ1.out; first | omega | exact Nat.le_refl _⟩, ⟨by (with_reducible repeat (first | refine blk_drewN ?_ _ | refine blk_drew ?_ | refine blk_alloc ?_ _)); exact BK204.out⟩, ⟨by repeat (first | (with_reducible first | exact HB.out | apply below_alloc | apply pw_below_drewN | apply below_drew1 | refine below_set ?_ GE204.out) | exact HB.out)⟩⟩
          · rw [if_neg c15] at H
            have c15b0 : ((Go.bits .and .u8 a0_1 8) == 0) = false := beq_eq_false_iff_ne.mpr c15
            have c15b1 : ((Go.bits .and .u8 a0_1 8) != 0) = true := bne_iff_ne.mpr c15
            by_cases c21 : x3_1 = true
            · subst c21
              have H1 : (entry_Check.j1 kj1 true a0_0 a0_1 a0_2 a0_3 a0_4 a0_5 a0_6 a0_7 a0_8 a0_9 l0_10) = some r := by rw [if_pos rfl] at H; exact H
              clear H
              have H := H1
              clear H1
              have H' := Aside0.mk H
              clear H
              have hcz22_0 : wc.cell? ⟨gb204, 0, none⟩ = some (.int .u8 a0_0) := (blk_cell BK204.out 0).trans rfl
              have hcz22_1 : wc.cell? ⟨gb204, 1, none⟩ = some (.int .u8 a0_1) := (blk_cell BK204.out 1).trans rfl
              have hcz22_2 : wc.cell? ⟨gb204, 2, none⟩ = some (.int .i64 a0_2) := (blk_cell BK204.out 2).trans rfl
              have hcz22_3 : wc.cell? ⟨gb204, 3, none⟩ = some (.int .u32 a0_3) := (blk_cell BK204.out 3).trans rfl
              have hcz22_4 : wc.cell? ⟨gb204, 4, none⟩ = some (.int .u16 a0_4) := (blk_cell BK204.out 4).trans rfl
              have hcz22_5 : wc.cell? ⟨gb204, 5, none⟩ = some (.int .i64 a0_5) := (blk_cell BK204.out 5).trans rfl
              have hcz22_6 : wc.cell? ⟨gb204, 6, none⟩ = some (.int .i64 a0_6) := (blk_cell BK204.out 6).trans rfl
              have hcz22_7 : wc.cell? ⟨gb204, 7, none⟩ = some (.int .i64 a0_7) := (blk_cell BK204.out 7).trans rfl
              have hcz22_8 : wc.cell? ⟨gb204, 8, none⟩ = some (.int .u64 a0_8) := (blk_cell BK204.out 8).trans rfl
              have hcz22_9 : wc.cell? ⟨gb204, 9, none⟩ = some (.int .u64 a0_9) := (blk_cell BK204.out 9).trans rfl
              have hcz22_10 : wc.cell? ⟨gb204, 10, none⟩ = some (.slice A0_10 l0_10.length c0_10) := (blk_cell BK204.out 10).trans rfl
              have hfz22_0 := blk_frozen BK204.out 0
              have hfz22_1 := blk_frozen BK204.out 1
              have hfz22_2 := blk_frozen BK204.out 2
              have hfz22_3 := blk_frozen BK204.out 3
              have hfz22_4 := blk_frozen BK204.out 4
              have hfz22_5 := blk_frozen BK204.out 5
              have hfz22_6 := blk_frozen BK204.out 6
              have hfz22_7 := blk_frozen BK204.out 7
              have hfz22_8 := blk_frozen BK204.out 8
              have hfz22_9 := blk_frozen BK204.out 9
              have hfz22_10 := blk_frozen BK204.out 10
              go_wp2
              repeat (go_quiet (fail); try go_wp2)
              go_meet
              case rel => exact ⟨_, (true), (by first | rfl | (simp; done) | (simp [*]; done)), H', ⟨by have := HJ1.out; first | omega | exact Nat.le_refl _⟩, ⟨by (with_reducible repeat (first | refine blk_drewN ?_ _ | refine blk_drew ?_ | refine blk_alloc ?_ _)); exact BK204.out⟩, ⟨by repeat (first | (with_reducible first | exact HB.out | apply below_alloc | apply pw_below_drewN | apply below_drew1 | refine below_set ?_ GE204.out) | exact HB.out)⟩⟩
            · replace c21 := Bool.eq_false_iff.mpr c21
              subst c21
              have H1 : (if a0_5 < 0 then (entry_Check.j1 kj1 true a0_0 a0_1 a0_2 a0_3 a0_4 a0_5 a0_6 a0_7 a0_8 a0_9 l0_10) else (entry_Check.j1 kj1 (decide (a0_5 > 65536)) a0_0 a0_1 a0_2 a0_3 a0_4 a0_5 a0_6 a0_7 a0_8 a0_9 l0_10)) = some r := by rw [if_neg (show ¬ (false = true) by decide)] at H; exact H
              clear H
              have H := H1
              clear H1
              by_cases c23 : a0_5 < 0
              · rw [if_pos c23] at H
                have c23b0 : decide (a0_5 < 0) = true := decide_eq_true c23
                clear c23
                have H' := Aside0.mk H
                clear H
                have hcz24_0 : wc.cell? ⟨gb204, 0, none⟩ = some (.int .u8 a0_0) := (blk_cell BK204.out 0).trans rfl
                have hcz24_1 : wc.cell? ⟨gb204, 1, none⟩ = some (.int .u8 a0_1) := (blk_cell BK204.out 1).trans rfl
                have hcz24_2 : wc.cell? ⟨gb204, 2, none⟩ = some (.int .i64 a0_2) := (blk_cell BK204.out 2).trans rfl
                have hcz24_3 : wc.cell? ⟨gb204, 3, none⟩ = some (.int .u32 a0_3) := (blk_cell BK204.out 3).trans rfl
                have hcz24_4 : wc.cell? ⟨gb204, 4, none⟩ = some (.int .u16 a0_4) := (blk_cell BK204.out 4).trans rfl
                have hcz24_5 : wc.cell? ⟨gb204, 5, none⟩ = some (.int .i64 a0_5) := (blk_cell BK204.out 5).trans rfl
                have hcz24_6 : wc.cell? ⟨gb204, 6, none⟩ = some (.int .i64 a0_6) := (blk_cell BK204.out 6).trans rfl
                have hcz24_7 : wc.cell? ⟨gb204, 7, none⟩ = some (.int .i64 a0_7) := (blk_cell BK204.out 7).trans rfl
                have hcz24_8 : wc.cell? ⟨gb204, 8, none⟩ = some (.int .u64 a0_8) := (blk_cell BK204.out 8).trans rfl
                have hcz24_9 : wc.cell? ⟨gb204, 9, none⟩ = some (.int .u64 a0_9) := (blk_cell BK204.out 9).trans rfl
                have hcz24_10 : wc.cell? ⟨gb204, 10, none⟩ = some (.slice A0_10 l0_10.length c0_10) := (blk_cell BK204.out 10).trans rfl
                have hfz24_0 := blk_frozen BK204.out 0
                have hfz24_1 := blk_frozen BK204.out 1
                have hfz24_2 := blk_frozen BK204.out 2
                have hfz24_3 := blk_frozen BK204.out 3
                have hfz24_4 := blk_frozen BK204.out 4
                have hfz24_5 := blk_frozen BK204.out 5
                have hfz24_6 := blk_frozen BK204.out 6
                have hfz24_7 := blk_frozen BK204.out 7
                have hfz24_8 := blk_frozen BK204.out 8
                have hfz24_9 := blk_frozen BK204.out 9
                have hfz24_10 := blk_frozen BK204.out 10
                go_wp2
                repeat (go_quiet (fail); try go_wp2)
                go_meet
                case rel => exact ⟨_, (true), (by first | rfl | (simp; done) | (simp [*]; done)), H', ⟨by have := HJ1.out; first | omega | exact Nat.le_refl _⟩, ⟨by (with_reducible repeat (first | refine blk_drewN ?_ _ | refine blk_drew ?_ | refine blk_alloc ?_ _)); exact BK204.out⟩, ⟨by repeat (first | (with_reducible first | exact HB.out | apply below_alloc | apply pw_below_drewN | apply below_drew1 | refine below_set ?_ GE204.out) | exact HB.out)⟩⟩
              · rw [if_neg c23] at H
                have c23b0 : decide (a0_5 < 0) = false := decide_eq_false c23
                clear c23
                have H' := Aside0.mk H
                clear H
                have hcz25_0 : wc.cell? ⟨gb204, 0, none⟩ = some (.int .u8 a0_0) := (blk_cell BK204.out 0).trans rfl
                have hcz25_1 : wc.cell? ⟨gb204, 1, none⟩ = some (.int .u8 a0_1) := (blk_cell BK204.out 1).trans rfl
                have hcz25_2 : wc.cell? ⟨gb204, 2, none⟩ = some (.int .i64 a0_2) := (blk_cell BK204.out 2).trans rfl
                have hcz25_3 : wc.cell? ⟨gb204, 3, none⟩ = some (.int .u32 a0_3) := (blk_cell BK204.out 3).trans rfl
                have hcz25_4 : wc.cell? ⟨gb204, 4, none⟩ = some (.int .u16 a0_4) := (blk_cell BK204.out 4).trans rfl
                have hcz25_5 : wc.cell? ⟨gb204, 5, none⟩ = some (.int .i64 a0_5) := (blk_cell BK204.out 5).trans rfl
                have hcz25_6 : wc.cell? ⟨gb204, 6, none⟩ = some (.int .i64 a0_6) := (blk_cell BK204.out 6).trans rfl
                have hcz25_7 : wc.cell? ⟨gb204, 7, none⟩ = some (.int .i64 a0_7) := (blk_cell BK204.out 7).trans rfl
                have hcz25_8 : wc.cell? ⟨gb204, 8, none⟩ = some (.int .u64 a0_8) := (blk_cell BK204.out 8).trans rfl
                have hcz25_9 : wc.cell? ⟨gb204, 9, none⟩ = some (.int .u64 a0_9) := (blk_cell BK204.out 9).trans rfl
                have hcz25_10 : wc.cell? ⟨gb204, 10, none⟩ = some (.slice A0_10 l0_10.length c0_10) := (blk_cell BK204.out 10).trans rfl
                have hfz25_0 := blk_frozen BK204.out 0
                have hfz25_1 := blk_frozen BK204.out 1
                have hfz25_2 := blk_frozen BK204.out 2
                have hfz25_3 := blk_frozen BK204.out 3
                have hfz25_4 := blk_frozen BK204.out 4
                have hfz25_5 := blk_frozen BK204.out 5
                have hfz25_6 := blk_frozen BK204.out 6
                have hfz25_7 := blk_frozen BK204.out 7
                have hfz25_8 := blk_frozen BK204.out 8
                have hfz25_9 := blk_frozen BK204.out 9
                have hfz25_10 := blk_frozen BK204.out 10
                go_wp2
                repeat (go_quiet (fail); try go_wp2)
                go_meet
                case rel => exact ⟨_, (decide (a0_5 > 65536)), (by first | rfl | (simp; done) | (simp [*]; done)), H', ⟨by have := HJ1.out; first | omega | exact Nat.le_refl _⟩, ⟨by (with_reducible repeat (first | refine blk_drewN ?_ _ | refine blk_drew ?_ | refine blk_alloc ?_ _)); exact BK204.out⟩, ⟨by repeat (first | (with_reducible first | exact HB.out | apply below_alloc | apply pw_below_drewN | apply below_drew1 | refine below_set ?_ GE204.out) | exact HB.out)⟩⟩
        · rw [if_neg c14] at H
          have c14b0 : (a0_0 == 7) = false := beq_eq_false_iff_ne.mpr c14
          have c14b1 : (a0_0 != 7) = true := bne_iff_ne.mpr c14
          (first | rw [c14b0] | (simp only [i64_w, i32_w]; rw [c14b0]) | skip)
          by_cases c26 : a0_0 = 10
          · rw [if_pos c26] at H
            have c26b0 : (a0_0 == 10) = true := beq_iff_eq.mpr c26
            have c26b1 : (a0_0 != 10) = false := bne_eq_false_iff_eq.mpr c26
            clear c26
            by_cases c27 : x3_1 = true
            · subst c27
              have H1 : (entry_Check.j1 kj1 true a0_0 a0_1 a0_2 a0_3 a0_4 a0_5 a0_6 a0_7 a0_8 a0_9 l0_10) = some r := by rw [if_pos rfl] at H; exact H
              clear H
              have H := H1
              clear H1
              have H' := Aside0.mk H
              clear H
              go_wp2
              repeat (go_quiet (fail); try go_wp2)
              go_meet
              case rel => exact ⟨_, (true), (by first | rfl | (simp; done) | (simp [*]; done)), H', ⟨by have := HJ1.out; first | omega | exact Nat.le_refl _⟩, ⟨by (with_reducible repeat (first | refine blk_drewN ?_ _ | refine blk_drew ?_ | refine blk_alloc ?_ _)); exact BK204.out⟩, ⟨by repeat (first | (with_reducible first | exact HB.out | apply below_alloc | apply pw_below_drewN | apply below_drew1 | refine below_set ?_ GE204.out) | exact HB.out)⟩⟩
            · replace c27 := Bool.eq_false_iff.mpr c27
              subst c27
              have H1 : (entry_Check.j1 kj1 (decide (a0_8 > 1073741824)) a0_0 a0_1 a0_2 a0_3 a0_4 a0_5 a0_6 a0_7 a0_8 a0_9 l0_10) = some r := by rw [if_neg (show ¬ (false = true) by decide)] at H; exact H
              clear H
              have H := H1
              clear H1
              have H' := Aside0.mk H
              clear H
              have hcz28_0 : wc.cell? ⟨gb204, 0, none⟩ = some (.int .u8 a0_0) := (blk_cell BK204.out 0).trans rfl
              have hcz28_1 : wc.cell? ⟨gb204, 1, none⟩ = some (.int .u8 a0_1) := (blk_cell BK204.out 1).trans rfl
              have hcz28_2 : wc.cell? ⟨gb204, 2, none⟩ = some (.int .i64 a0_2) := (blk_cell BK204.out 2).trans rfl
              have hcz28_3 : wc.cell? ⟨gb204, 3, none⟩ = some (.int .u32 a0_3) := (blk_cell BK204.out 3).trans rfl
              have hcz28_4 : wc.cell? ⟨gb204, 4, none⟩ = some (.int .u16 a0_4) := (blk_cell BK204.out 4).trans rfl
              have hcz28_5 : wc.cell? ⟨gb204, 5, none⟩ = some (.int .i64 a0_5) := (blk_cell BK204.out 5).trans rfl
              have hcz28_6 : wc.cell? ⟨gb204, 6, none⟩ = some (.int .i64 a0_6) := (blk_cell BK204.out 6).trans rfl
              have hcz28_7 : wc.cell? ⟨gb204, 7, none⟩ = some (.int .i64 a0_7) := (blk_cell BK204.out 7).trans rfl
              have hcz28_8 : wc.cell? ⟨gb204, 8, none⟩ = some (.int .u64 a0_8) := (blk_cell BK204.out 8).trans rfl
              have hcz28_9 : wc.cell? ⟨gb204, 9, none⟩ = some (.int .u64 a0_9) := (blk_cell BK204.out 9).trans rfl
              have hcz28_10 : wc.cell? ⟨gb204, 10, none⟩ = some (.slice A0_10 l0_10.length c0_10) := (blk_cell BK204.out 10).trans rfl
              have hfz28_0 := blk_frozen BK204.out 0
              have hfz28_1 := blk_frozen BK204.out 1
              have hfz28_2 := blk_frozen BK204.out 2
              have hfz28_3 := blk_frozen BK204.out 3
              have hfz28_4 := blk_frozen BK204.out 4
              have hfz28_5 := blk_frozen BK204.out 5
              have hfz28_6 := blk_frozen BK204.out 6
              have hfz28_7 := blk_frozen BK204.out 7
              have hfz28_8 := blk_frozen BK204.out 8
              have hfz28_9 := blk_frozen BK204.out 9
              have hfz28_10 := blk_frozen BK204.out 10
              go_wp2
              repeat (go_quiet (fail); try go_wp2)
              go_meet
              case rel => exact ⟨_, (decide (a0_8 > 1073741824)), (by first | rfl | (simp; done) | (simp [*]; done)), H', ⟨by have := HJ1.out; first | omega | exact Nat.le_refl _⟩, ⟨by (with_reducible repeat (first | refine blk_drewN ?_ _ | refine blk_drew ?_ | refine blk_alloc ?_ _)); exact BK204.out⟩, ⟨by repeat (first | (with_reducible first | exact HB.out | apply below_alloc | apply pw_below_drewN | apply below_drew1 | refine below_set ?_ GE204.out) | exact HB.out)⟩⟩
          · rw [if_neg c26] at H
            have c26b0 : (a0_0 == 10) = false := beq_eq_false_iff_ne.mpr c26
            have c26b1 : (a0_0 != 10) = true := bne_iff_ne.mpr c26
            by_cases c29 : a0_0 = 11
            · rw [if_pos c29] at H
              have c29b0 : (a0_0 == 11) = true := beq_iff_eq.mpr c29
              have c29b1 : (a0_0 != 11) = false := bne_eq_false_iff_eq.mpr c29
              clear c29
              by_cases c30 : x3_1 = true
              · subst c30
                have H1 : (entry_Check.j1 kj1 true a0_0 a0_1 a0_2 a0_3 a0_4 a0_5 a0_6 a0_7 a0_8 a0_9 l0_10) = some r := by rw [if_pos rfl] at H; exact H
                clear H
                have H := H1
                clear H1
                have H' := Aside0.mk H
                clear H
                go_wp2
                repeat (go_quiet (fail); try go_wp2)
                go_meet
                case rel => exact ⟨_, (true), (by first | rfl | (simp; done) | (simp [*]; done)), H', ⟨by have := HJ1.out; first | omega | exact Nat.le_refl _⟩, ⟨by (with_reducible repeat (first | refine blk_drewN ?_ _ | refine blk_drew ?_ | refine blk_alloc ?_ _)); exact BK204.out⟩, ⟨by repeat (first | (with_reducible first | exact HB.out | apply below_alloc | apply pw_below_drewN | apply below_drew1 | refine below_set ?_ GE204.out) | exact HB.out)⟩⟩
              · replace c30 := Bool.eq_false_iff.mpr c30
                subst c30
                have H1 : (entry_Check.j1 kj1 (decide (a0_8 > 1073741824)) a0_0 a0_1 a0_2 a0_3 a0_4 a0_5 a0_6 a0_7 a0_8 a0_9 l0_10) = some r := by rw [if_neg (show ¬ (false = true) by decide)] at H; exact H
                clear H
                have H := H1
                clear H1
                have H' := Aside0.mk H
                clear H
                have hcz31_0 : wc.cell? ⟨gb204, 0, none⟩ = some (.int .u8 a0_0) := (blk_cell BK204.out 0).trans rfl
                have hcz31_1 : wc.cell? ⟨gb204, 1, none⟩ = some (.int .u8 a0_1) := (blk_cell BK204.out 1).trans rfl
                have hcz31_2 : wc.cell? ⟨gb204, 2, none⟩ = some (.int .i64 a0_2) := (blk_cell BK204.out 2).trans rfl
                have hcz31_3 : wc.cell? ⟨gb204, 3, none⟩ = some (.int .u32 a0_3) := (blk_cell BK204.out 3).trans rfl
                have hcz31_4 : wc.cell? ⟨gb204, 4, none⟩ = some (.int .u16 a0_4) := (blk_cell BK204.out 4).trans rfl
                have hcz31_5 : wc.cell? ⟨gb204, 5, none⟩ = some (.int .i64 a0_5) := (blk_cell BK204.out 5).trans rfl
                have hcz31_6 : wc.cell? ⟨gb204, 6, none⟩ = some (.int .i64 a0_6) := (blk_cell BK204.out 6).trans rfl
                have hcz31_7 : wc.cell? ⟨gb204, 7, none⟩ = some (.int .i64 a0_7) := (blk_cell BK204.out 7).trans rfl
                have hcz31_8 : wc.cell? ⟨gb204, 8, none⟩ = some (.int .u64 a0_8) := (blk_cell BK204.out 8).trans rfl
                have hcz31_9 : wc.cell? ⟨gb204, 9, none⟩ = some (.int .u64 a0_9) := (blk_cell BK204.out 9).trans rfl
                have hcz31_10 : wc.cell? ⟨gb204, 10, none⟩ = some (.slice A0_10 l0_10.length c0_10) := (blk_cell BK204.out 10).trans rfl
                have hfz31_0 := blk_frozen BK204.out 0
                have hfz31_1 := blk_frozen BK204.out 1
                have hfz31_2 := blk_frozen BK204.out 2
                have hfz31_3 := blk_frozen BK204.out 3
                have hfz31_4 := blk_frozen BK204.out 4
                have hfz31_5 := blk_frozen BK204.out 5
                have hfz31_6 := blk_frozen BK204.out 6
                have hfz31_7 := blk_frozen BK204.out 7
                have hfz31_8 := blk_frozen BK204.out 8
                have hfz31_9 := blk_frozen BK204.out 9
                have hfz31_10 := blk_frozen BK204.out 10
                go_wp2
                repeat (go_quiet (fail); try go_wp2)
                go_meet
                case rel => exact ⟨_, (decide (a0_8 > 1073741824)), (by first | rfl | (simp; done) | (simp [*]; done)), H', ⟨by have := HJ1.out; first | omega | exact Nat.le_refl _⟩, ⟨by (with_reducible repeat (first | refine blk_drewN ?_ _ | refine blk_drew ?_ | refine blk_alloc ?_ _)); exact BK204.out⟩, ⟨by repeat (first | (with_reducible first | exact HB.out | apply below_alloc | apply pw_below_drewN | apply below_drew1 | refine below_set ?_ GE204.out) | exact HB.out)⟩⟩
            · rw [if_neg c29] at H
              have c29b0 : (a0_0 == 11) = false := beq_eq_false_iff_ne.mpr c29
              have c29b1 : (a0_0 != 11) = true := bne_iff_ne.mpr c29
              have H' := Aside0.mk H
              clear H
              go_wp2
              repeat (go_quiet (fail); try go_wp2)
              go_meet
              case rel => exact ⟨_, (x3_1), (by first | rfl | (simp; done) | (simp [*]; done)), H', ⟨by have := HJ1.out; first | omega | exact Nat.le_refl _⟩, ⟨by (with_reducible repeat (first | refine blk_drewN ?_ _ | refine blk_drew ?_ | refine blk_alloc ?_ _)); exact BK204.out⟩, ⟨by repeat (first | (with_reducible first | exact HB.out | apply below_alloc | apply pw_below_drewN | apply below_drew1 | refine below_set ?_ GE204.out) | exact HB.out)⟩⟩
      case rest =>
        clear HC12
        try clear c1
        try clear c2
        try clear p2
        try clear c3
        try clear c4
        try clear c4b0
        try clear c6
        try clear c6b0
        try clear c8
        try clear c8b0
        try clear c8b1
        try clear c14
        try clear c14b0
        try clear c14b1
        try clear c15
        try clear c15b0
        try clear c15b1
        try clear c16
        try clear c18
        try clear c18b0
        try clear c21
        try clear c23
        try clear c23b0
        try clear c26
        try clear c26b0
        try clear c26b1
        try clear c27
        try clear c29
        try clear c29b0
        try clear c29b1
        try clear c30
        try clear hcz11_0
        try clear hcz11_1
        try clear hcz11_10
        try clear hcz11_2
        try clear hcz11_3
        try clear hcz11_4
        try clear hcz11_5
        try clear hcz11_6
        try clear hcz11_7
        try clear hcz11_8
        try clear hcz11_9
        try clear hcz13_0
        try clear hcz13_1
        try clear hcz13_10
        try clear hcz13_2
        try clear hcz13_3
        try clear hcz13_4
        try clear hcz13_5
        try clear hcz13_6
        try clear hcz13_7
        try clear hcz13_8
        try clear hcz13_9
        try clear hcz17_0
        try clear hcz17_1
        try clear hcz17_10
        try clear hcz17_2
        try clear hcz17_3
        try clear hcz17_4
        try clear hcz17_5
        try clear hcz17_6
        try clear hcz17_7
        try clear hcz17_8
        try clear hcz17_9
        try clear hcz19_0
        try clear hcz19_1
        try clear hcz19_10
        try clear hcz19_2
        try clear hcz19_3
        try clear hcz19_4
        try clear hcz19_5
        try clear hcz19_6
        try clear hcz19_7
        try clear hcz19_8
        try clear hcz19_9
        try clear hcz20_0
        try clear hcz20_1
        try clear hcz20_10
        try clear hcz20_2
        try clear hcz20_3
        try clear hcz20_4
        try clear hcz20_5
        try clear hcz20_6
        try clear hcz20_7
        try clear hcz20_8
        try clear hcz20_9
        try clear hcz22_0
        try clear hcz22_1
        try clear hcz22_10
        try clear hcz22_2
        try clear hcz22_3
        try clear hcz22_4
        try clear hcz22_5
        try clear hcz22_6
        try clear hcz22_7
        try clear hcz22_8
        try clear hcz22_9
        try clear hcz24_0
        try clear hcz24_1
        try clear hcz24_10
        try clear hcz24_2
        try clear hcz24_3
        try clear hcz24_4
        try clear hcz24_5
        try clear hcz24_6
        try clear hcz24_7
        try clear hcz24_8
        try clear hcz24_9
        try clear hcz25_0
        try clear hcz25_1
        try clear hcz25_10
        try clear hcz25_2
        try clear hcz25_3
        try clear hcz25_4
        try clear hcz25_5
        try clear hcz25_6
        try clear hcz25_7
        try clear hcz25_8
        try clear hcz25_9
        try clear hcz28_0
        try clear hcz28_1
        try clear hcz28_10
        try clear hcz28_2
        try clear hcz28_3
        try clear hcz28_4
        try clear hcz28_5
        try clear hcz28_6
        try clear hcz28_7
        try clear hcz28_8
        try clear hcz28_9
        try clear hcz31_0
        try clear hcz31_1
        try clear hcz31_10
        try clear hcz31_2
        try clear hcz31_3
        try clear hcz31_4
        try clear hcz31_5
        try clear hcz31_6
        try clear hcz31_7
        try clear hcz31_8
        try clear hcz31_9
        try clear hcz5_0
        try clear hcz5_1
        try clear hcz5_10
        try clear hcz5_2
        try clear hcz5_3
        try clear hcz5_4
        try clear hcz5_5
        try clear hcz5_6
        try clear hcz5_7
        try clear hcz5_8
        try clear hcz5_9
        try clear hcz7_0
        try clear hcz7_1
        try clear hcz7_10
        try clear hcz7_2
        try clear hcz7_3
        try clear hcz7_4
        try clear hcz7_5
        try clear hcz7_6
        try clear hcz7_7
        try clear hcz7_8
        try clear hcz7_9
        try clear hcz9_0
        try clear hcz9_1
        try clear hcz9_10
        try clear hcz9_2
        try clear hcz9_3
        try clear hcz9_4
        try clear hcz9_5
        try clear hcz9_6
        try clear hcz9_7
        try clear hcz9_8
        try clear hcz9_9
        try clear hfz11_0
        try clear hfz11_1
        try clear hfz11_10
        try clear hfz11_2
        try clear hfz11_3
        try clear hfz11_4
        try clear hfz11_5
        try clear hfz11_6
        try clear hfz11_7
        try clear hfz11_8
        try clear hfz11_9
        try clear hfz13_0
        try clear hfz13_1
        try clear hfz13_10
        try clear hfz13_2
        try clear hfz13_3
        try clear hfz13_4
        try clear hfz13_5
        try clear hfz13_6
        try clear hfz13_7
        try clear hfz13_8
        try clear hfz13_9
        try clear hfz17_0
        try clear hfz17_1
        try clear hfz17_10
        try clear hfz17_2
        try clear hfz17_3
        try clear hfz17_4
        try clear hfz17_5
        try clear hfz17_6
        try clear hfz17_7
        try clear hfz17_8
        try clear hfz17_9
        try clear hfz19_0
        try clear hfz19_1
        try clear hfz19_10
        try clear hfz19_2
        try clear hfz19_3
        try clear hfz19_4
        try clear hfz19_5
        try clear hfz19_6
        try clear hfz19_7
        try clear hfz19_8
        try clear hfz19_9
        try clear hfz20_0
        try clear hfz20_1
        try clear hfz20_10
        try clear hfz20_2
        try clear hfz20_3
        try clear hfz20_4
        try clear hfz20_5
        try clear hfz20_6
        try clear hfz20_7
        try clear hfz20_8
        try clear hfz20_9
        try clear hfz22_0
        try clear hfz22_1
        try clear hfz22_10
        try clear hfz22_2
        try clear hfz22_3
        try clear hfz22_4
        try clear hfz22_5
        try clear hfz22_6
        try clear hfz22_7
        try clear hfz22_8
        try clear hfz22_9
        try clear hfz24_0
        try clear hfz24_1
        try clear hfz24_10
        try clear hfz24_2
        try clear hfz24_3
        try clear hfz24_4
        try clear hfz24_5
        try clear hfz24_6
        try clear hfz24_7
        try clear hfz24_8
        try clear hfz24_9
        try clear hfz25_0
        try clear hfz25_1
        try clear hfz25_10
        try clear hfz25_2
        try clear hfz25_3
        try clear hfz25_4
        try clear hfz25_5
        try clear hfz25_6
        try clear hfz25_7
        try clear hfz25_8
        try clear hfz25_9
        try clear hfz28_0
        try clear hfz28_1
        try clear hfz28_10
        try clear hfz28_2
        try clear hfz28_3
        try clear hfz28_4
        try clear hfz28_5
        try clear hfz28_6
        try clear hfz28_7
        try clear hfz28_8
        try clear hfz28_9
        try clear hfz31_0
        try clear hfz31_1
        try clear hfz31_10
        try clear hfz31_2
        try clear hfz31_3
        try clear hfz31_4
        try clear hfz31_5
        try clear hfz31_6
        try clear hfz31_7
        try clear hfz31_8
        try clear hfz31_9
        try clear hfz5_0
        try clear hfz5_1
        try clear hfz5_10
        try clear hfz5_2
        try clear hfz5_3
        try clear hfz5_4
        try clear hfz5_5
        try clear hfz5_6
        try clear hfz5_7
        try clear hfz5_8
        try clear hfz5_9
        try clear hfz7_0
        try clear hfz7_1
        try clear hfz7_10
        try clear hfz7_2
        try clear hfz7_3
        try clear hfz7_4
        try clear hfz7_5
        try clear hfz7_6
        try clear hfz7_7
        try clear hfz7_8
        try clear hfz7_9
        try clear hfz9_0
        try clear hfz9_1
        try clear hfz9_10
        try clear hfz9_2
        try clear hfz9_3
        try clear hfz9_4
        try clear hfz9_5
        try clear hfz9_6
        try clear hfz9_7
        try clear hfz9_8
        try clear hfz9_9
        try clear p2
        obtain ⟨kq, x3_11, rfl, HA, HJ11, BK204, HB⟩ := hcut
        cases kq with
        | zero => exact absurd HA.out (by simp [entry_Check.j1])
        | succ kj11 =>
          have H := HA.out
          clear HA
          simp only [entry_Check.j1] at H
          by_cases c32 : a0_0 = 6
          · rw [if_pos c32] at H
            have c32b0 : (a0_0 == 6) = true := beq_iff_eq.mpr c32
            have c32b1 : (a0_0 != 6) = false := bne_eq_false_iff_eq.mpr c32
            clear c32
            by_cases c33 : x3_11 = true
            · subst c33
              have H1 : (some 260) = some r := by rw [if_pos rfl] at H; exact H
              clear H
              have H := H1
              clear H1
              obtain rfl := Option.some.inj H
              have hcz34_0 : wc.cell? ⟨gb204, 0, none⟩ = some (.int .u8 a0_0) := (blk_cell BK204.out 0).trans rfl
              have hcz34_1 : wc.cell? ⟨gb204, 1, none⟩ = some (.int .u8 a0_1) := (blk_cell BK204.out 1).trans rfl
              have hcz34_2 : wc.cell? ⟨gb204, 2, none⟩ = some (.int .i64 a0_2) := (blk_cell BK204.out 2).trans rfl
              have hcz34_3 : wc.cell? ⟨gb204, 3, none⟩ = some (.int .u32 a0_3) := (blk_cell BK204.out 3).trans rfl
              have hcz34_4 : wc.cell? ⟨gb204, 4, none⟩ = some (.int .u16 a0_4) := (blk_cell BK204.out 4).trans rfl
              have hcz34_5 : wc.cell? ⟨gb204, 5, none⟩ = some (.int .i64 a0_5) := (blk_cell BK204.out 5).trans rfl
              have hcz34_6 : wc.cell? ⟨gb204, 6, none⟩ = some (.int .i64 a0_6) := (blk_cell BK204.out 6).trans rfl
              have hcz34_7 : wc.cell? ⟨gb204, 7, none⟩ = some (.int .i64 a0_7) := (blk_cell BK204.out 7).trans rfl
              have hcz34_8 : wc.cell? ⟨gb204, 8, none⟩ = some (.int .u64 a0_8) := (blk_cell BK204.out 8).trans rfl
              have hcz34_9 : wc.cell? ⟨gb204, 9, none⟩ = some (.int .u64 a0_9) := (blk_cell BK204.out 9).trans rfl
              have hcz34_10 : wc.cell? ⟨gb204, 10, none⟩ = some (.slice A0_10 l0_10.length c0_10) := (blk_cell BK204.out 10).trans rfl
              have hfz34_0 := blk_frozen BK204.out 0
              have hfz34_1 := blk_frozen BK204.out 1
              have hfz34_2 := blk_frozen BK204.out 2
              have hfz34_3 := blk_frozen BK204.out 3
              have hfz34_4 := blk_frozen BK204.out 4
              have hfz34_5 := blk_frozen BK204.out 5
              have hfz34_6 := blk_frozen BK204.out 6
              have hfz34_7 := blk_frozen BK204.out 7
              have hfz34_8 := blk_frozen BK204.out 8
              have hfz34_9 := blk_frozen BK204.out 9
              have hfz34_10 := blk_frozen BK204.out 10
              go_wp2
              repeat (go_quiet (fail); try go_wp2)
              go_ret
              exact ⟨by first | rfl | (simp [errW_none, errW_some] <;> rfl) | (simp [*, errW_none, errW_some] <;> rfl), by repeat (first | (with_reducible first | exact HB.out | apply below_alloc | apply pw_below_drewN | apply below_drew1 | refine below_set ?_ GE204.out) | exact HB.out)⟩
            · replace c33 := Bool.eq_false_iff.mpr c33
              subst c33
              have H1 : (if (l0_10.length : Int) > 65536 then (some 260) else (some 0)) = some r := by rw [if_neg (show ¬ (false = true) by decide)] at H; exact H
              clear H
              have H := H1
              clear H1
              by_cases c35 : (l0_10.length : Int) > 65536
              · rw [if_pos c35] at H
                have c35b0 : decide (65536 < (l0_10.length : Int)) = true := decide_eq_true c35
                have c35b1 : decide (65536 < l0_10.length) = true := decide_eq_true (by omega)
                clear c35
                obtain rfl := Option.some.inj H
                have hcz36_0 : wc.cell? ⟨gb204, 0, none⟩ = some (.int .u8 a0_0) := (blk_cell BK204.out 0).trans rfl
                have hcz36_1 : wc.cell? ⟨gb204, 1, none⟩ = some (.int .u8 a0_1) := (blk_cell BK204.out 1).trans rfl
                have hcz36_2 : wc.cell? ⟨gb204, 2, none⟩ = some (.int .i64 a0_2) := (blk_cell BK204.out 2).trans rfl
                have hcz36_3 : wc.cell? ⟨gb204, 3, none⟩ = some (.int .u32 a0_3) := (blk_cell BK204.out 3).trans rfl
                have hcz36_4 : wc.cell? ⟨gb204, 4, none⟩ = some (.int .u16 a0_4) := (blk_cell BK204.out 4).trans rfl
                have hcz36_5 : wc.cell? ⟨gb204, 5, none⟩ = some (.int .i64 a0_5) := (blk_cell BK204.out 5).trans rfl
                have hcz36_6 : wc.cell? ⟨gb204, 6, none⟩ = some (.int .i64 a0_6) := (blk_cell BK204.out 6).trans rfl
                have hcz36_7 : wc.cell? ⟨gb204, 7, none⟩ = some (.int .i64 a0_7) := (blk_cell BK204.out 7).trans rfl
                have hcz36_8 : wc.cell? ⟨gb204, 8, none⟩ = some (.int .u64 a0_8) := (blk_cell BK204.out 8).trans rfl
                have hcz36_9 : wc.cell? ⟨gb204, 9, none⟩ = some (.int .u64 a0_9) := (blk_cell BK204.out 9).trans rfl
                have hcz36_10 : wc.cell? ⟨gb204, 10, none⟩ = some (.slice A0_10 l0_10.length c0_10) := (blk_cell BK204.out 10).trans rfl
                have hfz36_0 := blk_frozen BK204.out 0
                have hfz36_1 := blk_frozen BK204.out 1
                have hfz36_2 := blk_frozen BK204.out 2
                have hfz36_3 := blk_frozen BK204.out 3
                have hfz36_4 := blk_frozen BK204.out 4
                have hfz36_5 := blk_frozen BK204.out 5
                have hfz36_6 := blk_frozen BK204.out 6
                have hfz36_7 := blk_frozen BK204.out 7
                have hfz36_8 := blk_frozen BK204.out 8
                have hfz36_9 := blk_frozen BK204.out 9
                have hfz36_10 := blk_frozen BK204.out 10
                go_wp2
                repeat (go_quiet (fail); try go_wp2)
                go_ret
                exact ⟨by first | rfl | (simp [errW_none, errW_some] <;> rfl) | (simp [*, errW_none, errW_some] <;> rfl), by repeat (first | (with_reducible first | exact HB.out | apply below_alloc | apply pw_below_drewN | apply below_drew1 | refine below_set ?_ GE204.out) | exact HB.out)⟩
              · rw [if_neg c35] at H
                have c35b0 : decide (65536 < (l0_10.length : Int)) = false := decide_eq_false c35
                have c35b1 : decide (65536 < l0_10.length) = false := decide_eq_false (by omega)
                clear c35
                obtain rfl := Option.some.inj H
                have hcz37_0 : wc.cell? ⟨gb204, 0, none⟩ = some (.int .u8 a0_0) := (blk_cell BK204.out 0).trans rfl
                have hcz37_1 : wc.cell? ⟨gb204, 1, none⟩ = some (.int .u8 a0_1) := (blk_cell BK204.out 1).trans rfl
                have hcz37_2 : wc.cell? ⟨gb204, 2, none⟩ = some (.int .i64 a0_2) := (blk_cell BK204.out 2).trans rfl
                have hcz37_3 : wc.cell? ⟨gb204, 3, none⟩ = some (.int .u32 a0_3) := (blk_cell BK204.out 3).trans rfl
                have hcz37_4 : wc.cell? ⟨gb204, 4, none⟩ = some (.int .u16 a0_4) := (blk_cell BK204.out 4).trans rfl
                have hcz37_5 : wc.cell? ⟨gb204, 5, none⟩ = some (.int .i64 a0_5) := (blk_cell BK204.out 5).trans rfl
                have hcz37_6 : wc.cell? ⟨gb204, 6, none⟩ = some (.int .i64 a0_6) := (blk_cell BK204.out 6).trans rfl
                have hcz37_7 : wc.cell? ⟨gb204, 7, none⟩ = some (.int .i64 a0_7) := (blk_cell BK204.out 7).trans rfl
                have hcz37_8 : wc.cell? ⟨gb204, 8, none⟩ = some (.int .u64 a0_8) := (blk_cell BK204.out 8).trans rfl
                have hcz37_9 : wc.cell? ⟨gb204, 9, none⟩ = some (.int .u64 a0_9) := (blk_cell BK204.out 9).trans rfl
                have hcz37_10 : wc.cell? ⟨gb204, 10, none⟩ = some (.slice A0_10 l0_10.length c0_10) := (blk_cell BK204.out 10).trans rfl
                have hfz37_0 := blk_frozen BK204.out 0
                have hfz37_1 := blk_frozen BK204.out 1
                have hfz37_2 := blk_frozen BK204.out 2
                have hfz37_3 := blk_frozen BK204.out 3
                have hfz37_4 := blk_frozen BK204.out 4
                have hfz37_5 := blk_frozen BK204.out 5
                have hfz37_6 := blk_frozen BK204.out 6
                have hfz37_7 := blk_frozen BK204.out 7
                have hfz37_8 := blk_frozen BK204.out 8
                have hfz37_9 := blk_frozen BK204.out 9
                have hfz37_10 := blk_frozen BK204.out 10
                go_wp2
                repeat (go_quiet (fail); try go_wp2)
                go_ret
                exact ⟨by first | rfl | (simp [errW_none, errW_some] <;> rfl) | (simp [*, errW_none, errW_some] <;> rfl), by repeat (first | (with_reducible first | exact HB.out | apply below_alloc | apply pw_below_drewN | apply below_drew1 | refine below_set ?_ GE204.out) | exact HB.out)⟩
          · rw [if_neg c32] at H
            have c32b0 : (a0_0 == 6) = false := beq_eq_false_iff_ne.mpr c32
            have c32b1 : (a0_0 != 6) = true := bne_iff_ne.mpr c32
            by_cases c38 : x3_11 = true
            · subst c38
              have H1 : (some 260) = some r := by rw [if_pos rfl] at H; exact H
              clear H
              have H := H1
              clear H1
              obtain rfl := Option.some.inj H
              have hcz39_0 : wc.cell? ⟨gb204, 0, none⟩ = some (.int .u8 a0_0) := (blk_cell BK204.out 0).trans rfl
              have hcz39_1 : wc.cell? ⟨gb204, 1, none⟩ = some (.int .u8 a0_1) := (blk_cell BK204.out 1).trans rfl
              have hcz39_2 : wc.cell? ⟨gb204, 2, none⟩ = some (.int .i64 a0_2) := (blk_cell BK204.out 2).trans rfl
              have hcz39_3 : wc.cell? ⟨gb204, 3, none⟩ = some (.int .u32 a0_3) := (blk_cell BK204.out 3).trans rfl
              have hcz39_4 : wc.cell? ⟨gb204, 4, none⟩ = some (.int .u16 a0_4) := (blk_cell BK204.out 4).trans rfl
              have hcz39_5 : wc.cell? ⟨gb204, 5, none⟩ = some (.int .i64 a0_5) := (blk_cell BK204.out 5).trans rfl
              have hcz39_6 : wc.cell? ⟨gb204, 6, none⟩ = some (.int .i64 a0_6) := (blk_cell BK204.out 6).trans rfl
              have hcz39_7 : wc.cell? ⟨gb204, 7, none⟩ = some (.int .i64 a0_7) := (blk_cell BK204.out 7).trans rfl
              have hcz39_8 : wc.cell? ⟨gb204, 8, none⟩ = some (.int .u64 a0_8) := (blk_cell BK204.out 8).trans rfl
              have hcz39_9 : wc.cell? ⟨gb204, 9, none⟩ = some (.int .u64 a0_9) := (blk_cell BK204.out 9).trans rfl
              have hcz39_10 : wc.cell? ⟨gb204, 10, none⟩ = some (.slice A0_10 l0_10.length c0_10) := (blk_cell BK204.out 10).trans rfl
              have hfz39_0 := blk_frozen BK204.out 0
              have hfz39_1 := blk_frozen BK204.out 1
              have hfz39_2 := blk_frozen BK204.out 2
              have hfz39_3 := blk_frozen BK204.out 3
              have hfz39_4 := blk_frozen BK204.out 4
              have hfz39_5 := blk_frozen BK204.out 5
              have hfz39_6 := blk_frozen BK204.out 6
              have hfz39_7 := blk_frozen BK204.out 7
              have hfz39_8 := blk_frozen BK204.out 8
              have hfz39_9 := blk_frozen BK204.out 9
              have hfz39_10 := blk_frozen BK204.out 10
              go_wp2
              repeat (go_quiet (fail); try go_wp2)
              go_ret
              exact ⟨by first | rfl | (simp [errW_none, errW_some] <;> rfl) | (simp [*, errW_none, errW_some] <;> rfl), by repeat (first | (with_reducible first | exact HB.out | apply below_alloc | apply pw_below_drewN | apply below_drew1 | refine below_set ?_ GE204.out) | exact HB.out)⟩
            · replace c38 := Bool.eq_false_iff.mpr c38
              subst c38
              have H1 : (if (l0_10.length : Int) > 0 then (some 260) else (some 0)) = some r := by rw [if_neg (show ¬ (false = true) by decide)] at H; exact H
              clear H
              have H := H1
              clear H1
              by_cases c40 : (l0_10.length : Int) > 0
              · rw [if_pos c40] at H
                have c40b0 : decide (0 < (l0_10.length : Int)) = true := decide_eq_true c40
                have c40b1 : decide (0 < l0_10.length) = true := decide_eq_true (by omega)
                clear c40
                obtain rfl := Option.some.inj H
                have hcz41_0 : wc.cell? ⟨gb204, 0, none⟩ = some (.int .u8 a0_0) := (blk_cell BK204.out 0).trans rfl
                have hcz41_1 : wc.cell? ⟨gb204, 1, none⟩ = some (.int .u8 a0_1) := (blk_cell BK204.out 1).trans rfl
                have hcz41_2 : wc.cell? ⟨gb204, 2, none⟩ = some (.int .i64 a0_2) := (blk_cell BK204.out 2).trans rfl
                have hcz41_3 : wc.cell? ⟨gb204, 3, none⟩ = some (.int .u32 a0_3) := (blk_cell BK204.out 3).trans rfl
                have hcz41_4 : wc.cell? ⟨gb204, 4, none⟩ = some (.int .u16 a0_4) := (blk_cell BK204.out 4).trans rfl
                have hcz41_5 : wc.cell? ⟨gb204, 5, none⟩ = some (.int .i64 a0_5) := (blk_cell BK204.out 5).trans rfl
                have hcz41_6 : wc.cell? ⟨gb204, 6, none⟩ = some (.int .i64 a0_6) := (blk_cell BK204.out 6).trans rfl
                have hcz41_7 : wc.cell? ⟨gb204, 7, none⟩ = some (.int .i64 a0_7) := (blk_cell BK204.out 7).trans rfl
                have hcz41_8 : wc.cell? ⟨gb204, 8, none⟩ = some (.int .u64 a0_8) := (blk_cell BK204.out 8).trans rfl
                have hcz41_9 : wc.cell? ⟨gb204, 9, none⟩ = some (.int .u64 a0_9) := (blk_cell BK204.out 9).trans rfl
                have hcz41_10 : wc.cell? ⟨gb204, 10, none⟩ = some (.slice A0_10 l0_10.length c0_10) := (blk_cell BK204.out 10).trans rfl
                have hfz41_0 := blk_frozen BK204.out 0
                have hfz41_1 := blk_frozen BK204.out 1
                have hfz41_2 := blk_frozen BK204.out 2
                have hfz41_3 := blk_frozen BK204.out 3
                have hfz41_4 := blk_frozen BK204.out 4
                have hfz41_5 := blk_frozen BK204.out 5
                have hfz41_6 := blk_frozen BK204.out 6
                have hfz41_7 := blk_frozen BK204.out 7
                have hfz41_8 := blk_frozen BK204.out 8
                have hfz41_9 := blk_frozen BK204.out 9
                have hfz41_10 := blk_frozen BK204.out 10
                go_wp2
                repeat (go_quiet (fail); try go_wp2)
                go_ret
                exact ⟨by first | rfl | (simp [errW_none, errW_some] <;> rfl) | (simp [*, errW_none, errW_some] <;> rfl), by repeat (first | (with_reducible first | exact HB.out | apply below_alloc | apply pw_below_drewN | apply below_drew1 | refine below_set ?_ GE204.out) | exact HB.out)⟩
              · rw [if_neg c40] at H
                have c40b0 : decide (0 < (l0_10.length : Int)) = false := decide_eq_false c40
                have c40b1 : decide (0 < l0_10.length) = false := decide_eq_false (by omega)
                clear c40
                obtain rfl := Option.some.inj H
                have hcz42_0 : wc.cell? ⟨gb204, 0, none⟩ = some (.int .u8 a0_0) := (blk_cell BK204.out 0).trans rfl
                have hcz42_1 : wc.cell? ⟨gb204, 1, none⟩ = some (.int .u8 a0_1) := (blk_cell BK204.out 1).trans rfl
                have hcz42_2 : wc.cell? ⟨gb204, 2, none⟩ = some (.int .i64 a0_2) := (blk_cell BK204.out 2).trans rfl
                have hcz42_3 : wc.cell? ⟨gb204, 3, none⟩ = some (.int .u32 a0_3) := (blk_cell BK204.out 3).trans rfl
                have hcz42_4 : wc.cell? ⟨gb204, 4, none⟩ = some (.int .u16 a0_4) := (blk_cell BK204.out 4).trans rfl
                have hcz42_5 : wc.cell? ⟨gb204, 5, none⟩ = some (.int .i64 a0_5) := (blk_cell BK204.out 5).trans rfl
                have hcz42_6 : wc.cell? ⟨gb204, 6, none⟩ = some (.int .i64 a0_6) := (blk_cell BK204.out 6).trans rfl
                have hcz42_7 : wc.cell? ⟨gb204, 7, none⟩ = some (.int .i64 a0_7) := (blk_cell BK204.out 7).trans rfl
                have hcz42_8 : wc.cell? ⟨gb204, 8, none⟩ = some (.int .u64 a0_8) := (blk_cell BK204.out 8).trans rfl
                have hcz42_9 : wc.cell? ⟨gb204, 9, none⟩ = some (.int .u64 a0_9) := (blk_cell BK204.out 9).trans rfl
                have hcz42_10 : wc.cell? ⟨gb204, 10, none⟩ = some (.slice A0_10 l0_10.length c0_10) := (blk_cell BK204.out 10).trans rfl
                have hfz42_0 := blk_frozen BK204.out 0
                have hfz42_1 := blk_frozen BK204.out 1
                have hfz42_2 := blk_frozen BK204.out 2
                have hfz42_3 := blk_frozen BK204.out 3
                have hfz42_4 := blk_frozen BK204.out 4
                have hfz42_5 := blk_frozen BK204.out 5
                have hfz42_6 := blk_frozen BK204.out 6
                have hfz42_7 := blk_frozen BK204.out 7
                have hfz42_8 := blk_frozen BK204.out 8
                have hfz42_9 := blk_frozen BK204.out 9
                have hfz42_10 := blk_frozen BK204.out 10
                go_wp2
                repeat (go_quiet (fail); try go_wp2)
                go_ret
                exact ⟨by first | rfl | (simp [errW_none, errW_some] <;> rfl) | (simp [*, errW_none, errW_some] <;> rfl), by repeat (first | (with_reducible first | exact HB.out | apply below_alloc | apply pw_below_drewN | apply below_drew1 | refine below_set ?_ GE204.out) | exact HB.out)⟩

end Go.Proofs.Ytilkbmjkjlbfmaa.PEnt
