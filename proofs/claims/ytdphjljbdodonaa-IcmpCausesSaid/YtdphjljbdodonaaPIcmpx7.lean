-- Laid by a program of this session (wip/tools/mk.py) over the kit's print: functions, contracts, walks; not written by hand, not trusted: Lean checks it.
import Derived.Test.YtdphjljbdodonaaPIcmpx0
import Derived.Test.YtdphjljbdodonaaPIcmpx6
namespace Go.Proofs.Ytdphjljbdodonaa.PIcmp
open Go.RowKit Go.Proofs.YtdphjljbdodonaaW.PrintWords Go.Proofs.YtdphjljbdodonaaW.PrintLast Go.Proofs.YtdphjljbdodonaaW.PrintMore
attribute [local go_sem] max2_int min2_int max_two min_two max_three min_three max_four min_four   -- for this text's walks alone
set_option linter.unusedVariables false
set_option linter.unusedSimpArgs false

/-! ### towroperef07_Cause: function 32 -/
mutual
def towroperef07_Cause.j0 : Nat → List Int → Bool → Option (Int × Int × Bool × Bool × Int × Int × Int × Int × Int × List Int × List Int × Int)
 | 0, _, _ => none
 | k + 1, x4, x16 => if x16 = true then (some (0, 0, false, false, 0, 0, 0, 0, 0, ([] : List Int), ([] : List Int), 6)) else (if (x4.length : Int) < 28 then (some (0, 0, false, false, 0, 0, 0, 0, 0, ([] : List Int), ([] : List Int), 2)) else (if 0 < (x4.length : Int) then (if (rd x4 0) < 69 then (towroperef07_Cause.j1 k x4 true) else (towroperef07_Cause.j1 k x4 (decide ((rd x4 0) > 79)))) else (none)))
def towroperef07_Cause.j1 : Nat → List Int → Bool → Option (Int × Int × Bool × Bool × Int × Int × Int × Int × Int × List Int × List Int × Int)
 | 0, _, _ => none
 | k + 1, x4, x31 => if x31 = true then (some (0, 0, false, false, 0, 0, 0, 0, 0, ([] : List Int), ([] : List Int), 3)) else (if 0 < (x4.length : Int) then (if (x4.length : Int) < (wrap64 ((wrap64 (4 * (wrap64 ((wrap64 (rd x4 0)) - 64)))) + 8)) then (some (0, 0, false, false, 0, 0, 0, 0, 0, ([] : List Int), ([] : List Int), 2)) else (if 1 < (x4.length : Int) then ((towroperef07_number.f k x4 4 2).bind fun t216 => (if 8 < (x4.length : Int) then (if 9 < (x4.length : Int) then (if 6 < (x4.length : Int) then ((towroperef07_number.f k x4 6 2).bind fun t222 => ((towroperef07_number.f k x4 12 4).bind fun t223 => ((towroperef07_number.f k x4 16 4).bind fun t224 => (if 20 ≤ (wrap64 (4 * (wrap64 ((wrap64 (rd x4 0)) - 64)))) then (if (wrap64 (4 * (wrap64 ((wrap64 (rd x4 0)) - 64)))) ≤ (x4.length : Int) then (if 0 ≤ (wrap64 (4 * (wrap64 ((wrap64 (rd x4 0)) - 64)))) then (if (wrap64 (4 * (wrap64 ((wrap64 (rd x4 0)) - 64)))) ≤ (wrap64 ((wrap64 (4 * (wrap64 ((wrap64 (rd x4 0)) - 64)))) + 8)) then (if (wrap64 ((wrap64 (4 * (wrap64 ((wrap64 (rd x4 0)) - 64)))) + 8)) ≤ (x4.length : Int) then (some (rd x4 1, IntKind.u16.wrap (t216), ((((Int.tdiv (rd x4 6) 64) % 256) % 2) == 1), ((((Int.tdiv (rd x4 6) 32) % 256) % 2) == 1), Int.tmod t222 8192, rd x4 8, rd x4 9, (t223) % 4294967296, (t224) % 4294967296, ((x4.take ((wrap64 (4 * (wrap64 ((wrap64 (rd x4 0)) - 64)))) : Int).toNat).drop 20), ((x4.take ((wrap64 ((wrap64 (4 * (wrap64 ((wrap64 (rd x4 0)) - 64)))) + 8)) : Int).toNat).drop ((wrap64 (4 * (wrap64 ((wrap64 (rd x4 0)) - 64)))) : Int).toNat), 0)) else (none)) else (none)) else (none)) else (none)) else (none))))) else (none)) else (none)) else (none))) else (none))) else (none))
end
def towroperef07_Cause.f (k : Nat) (a0_0 : Int) (a0_1 : Int) (a0_2 : Int) (l0_3 : List Int) : Option (Int × Int × Bool × Bool × Int × Int × Int × Int × Int × List Int × List Int × Int) := if a0_0 = 3 then (towroperef07_Cause.j0 k l0_3 false) else (towroperef07_Cause.j0 k l0_3 (a0_0 != 11))
theorem towroperef07_Cause.mono_l : ∀ k, (∀ y0 y1, LeO (towroperef07_Cause.j0 k y0 y1) (towroperef07_Cause.j0 (k + 1) y0 y1)) ∧ (∀ y0 y1, LeO (towroperef07_Cause.j1 k y0 y1) (towroperef07_Cause.j1 (k + 1) y0 y1))
 | 0 => ⟨fun _ _ r h => by simp [towroperef07_Cause.j0] at h, fun _ _ r h => by simp [towroperef07_Cause.j1] at h⟩
 | k + 1 => by
  obtain ⟨ih0, ih1⟩ := towroperef07_Cause.mono_l k
  refine ⟨?_, ?_⟩
  ·
   intro y0 y1
   unfold towroperef07_Cause.j0
   repeat' first
   | (with_reducible exact ih0 _ _)
   | (with_reducible exact ih1 _ _)
   | (with_reducible exact towroperef07_number.mono _ _ _ _)
   | (with_reducible exact LeO.refl _)
   | (with_reducible exact LeO.none _)
   | (with_reducible refine LeO.ite ?_ ?_)
   | (with_reducible refine LeO.bind ?_ (fun _ => ?_))
   | exact ih0 _ _
   | exact ih1 _ _
   | exact towroperef07_number.mono _ _ _ _
   | exact LeO.none _
   | refine LeO.ite ?_ ?_
   | refine LeO.bind ?_ (fun _ => ?_)
  ·
   intro y0 y1
   unfold towroperef07_Cause.j1
   repeat' first
   | (with_reducible exact ih0 _ _)
   | (with_reducible exact ih1 _ _)
   | (with_reducible exact towroperef07_number.mono _ _ _ _)
   | (with_reducible exact LeO.refl _)
   | (with_reducible exact LeO.none _)
   | (with_reducible refine LeO.ite ?_ ?_)
   | (with_reducible refine LeO.bind ?_ (fun _ => ?_))
   | exact ih0 _ _
   | exact ih1 _ _
   | exact towroperef07_number.mono _ _ _ _
   | exact LeO.none _
   | refine LeO.ite ?_ ?_
   | refine LeO.bind ?_ (fun _ => ?_)
theorem towroperef07_Cause.mono : ∀ a0 a1 a2 a3 k, LeO (towroperef07_Cause.f k a0 a1 a2 a3) (towroperef07_Cause.f (k + 1) a0 a1 a2 a3) := by
 intro a0 a1 a2 a3 k
 obtain ⟨ih0, ih1⟩ := towroperef07_Cause.mono_l k
 unfold towroperef07_Cause.f
 repeat' first
   | (with_reducible exact ih0 _ _)
   | (with_reducible exact ih1 _ _)
   | (with_reducible exact towroperef07_number.mono _ _ _ _)
   | (with_reducible exact LeO.refl _)
   | (with_reducible exact LeO.none _)
   | (with_reducible refine LeO.ite ?_ ?_)
   | (with_reducible refine LeO.bind ?_ (fun _ => ?_))
   | exact ih0 _ _
   | exact ih1 _ _
   | exact towroperef07_number.mono _ _ _ _
   | exact LeO.none _
   | refine LeO.ite ?_ ?_
   | refine LeO.bind ?_ (fun _ => ?_)
def towroperef07_Cause.T11 : Bool × List (List Nat × List Nat) := (true, [([], []), ([0], [0]), ([1], [1]), ([], []), ([3], [3]), ([4], [4]), ([], []), ([6], [6]), ([7], [7]), ([], []), ([9], [9]), ([10], [10]), ([2, 5, 8, 11], [2, 5, 8, 11]), ([], []), ([13, 12, 4, 0, 1, 2, 3, 4, 5, 6, 7, 8, 9, 10, 11, 12, 13], [12, 13])])
def towroperef07_Cause.B11 : List Nat := [0, 1, 3, 0, 8, 24, 0, 64, 192, 0, 512, 1536, 4095, 0, 16383]
theorem towroperef07_Cause.tab11 : rtab .any (opsOf Try.f32 11) = towroperef07_Cause.T11 := by kernel_rfl
theorem towroperef07_Cause.bits11 : waitsOk towroperef07_Cause.T11.2 towroperef07_Cause.B11 = true := by kernel_rfl
def towroperef07_Cause.T16 : Bool × List (List Nat × List Nat) := (true, [([], []), ([], []), ([0, 1], [0, 1]), ([], []), ([], []), ([], []), ([5], [5]), ([3, 4, 6], [3, 4, 6]), ([0, 1, 2], []), ([8, 2, 0, 1, 2], [2, 8]), ([0, 1, 2, 3, 4, 5, 6, 7, 8, 9], []), ([10, 7, 9, 0, 1, 2, 3, 4, 5, 6, 7, 8, 9], [7, 10])])
def towroperef07_Cause.B16 : List Nat := [0, 0, 3, 0, 0, 0, 32, 120, 7, 263, 1023, 2047]
theorem towroperef07_Cause.tab16 : rtab .any (opsOf Try.f32 16) = towroperef07_Cause.T16 := by kernel_rfl
theorem towroperef07_Cause.bits16 : waitsOk towroperef07_Cause.T16.2 towroperef07_Cause.B16 = true := by kernel_rfl
set_option maxHeartbeats 8000000 in
set_option maxRecDepth 100000 in
theorem towroperef07_Cause.calls (k : Nat) (a0_0 : Int) (a0_1 : Int) (a0_2 : Int) (P0_3_ : Nat → Prop) (A0_3 : Option Addr) (c0_3 : Nat) (l0_3 : List Int) (r1 : Int) (r2 : Int) (r3 : Bool) (r4 : Bool) (r5 : Int) (r6 : Int) (r7 : Int) (r8 : Int) (r9 : Int) (r10 : List Int) (r11 : List Int) (r12 : Int) (w : World) (hs0_3 : Kd.V (Kd.int .u8) 5 w w.heap.size (fun k_ => P0_3_ k_) (.slice A0_3 l0_3.length c0_3) l0_3) (h : towroperef07_Cause.f k a0_0 a0_1 a0_2 l0_3 = some (r1, r2, r3, r4, r5, r6, r7, r8, r9, r10, r11, r12)) :
  Calls Try.prog 32 #[.agg #[.int .u8 a0_0, .int .u8 a0_1, .int .u32 a0_2, .slice A0_3 l0_3.length c0_3]] w fun e w' => ∃ v9_ v10_ : Value, e = .returned (.tuple #[.agg #[.int .u8 r1, .int .u16 r2, .bool r3, .bool r4, .int .i64 r5, .int .u8 r6, .int .u8 r7, .int .u32 r8, .int .u32 r9, v9_, v10_], .int .i64 r12]) ∧ Kd.V (Kd.int .u8) 5 w' w.heap.size (fun k_ => (P0_3_ k_ ∨ w.heap.size ≤ k_)) v9_ r10 ∧ Kd.V (Kd.int .u8) 5 w' w.heap.size (fun k_ => (P0_3_ k_ ∨ w.heap.size ≤ k_)) v10_ r11 ∧ Below w.heap.size w w' := by
 have hu25 := Try.underlying25
 have hu37 := Try.underlying37
 have HO0_3 := Aside0.mk (show Kd.V (Kd.int .u8) 5 w w.heap.size (fun k_ => (P0_3_ k_ ∨ w.heap.size ≤ k_)) (.slice A0_3 l0_3.length c0_3) l0_3 from Kd.V_mono hs0_3 (fun k_ hk => .inl hk))
 have HB := Aside0.mk (Below.refl w.heap.size w)
 have H : (if a0_0 = 3 then (towroperef07_Cause.j0 k l0_3 false) else (towroperef07_Cause.j0 k l0_3 (a0_0 != 11))) = some (r1, r2, r3, r4, r5, r6, r7, r8, r9, r10, r11, r12) := h
 clear h
 have HC2 := Aside0.mk H
 clear H
 go_enter Try.func32, Try.ntmps32
 go_upto_region 2 with (first | ((with_reducible refine gate_dst (N := 1) rfl ?_); refine box_event ?hg (N := 1) ?hd (cs := #[.int .u8 a0_0, .int .u8 a0_1, .int .u32 a0_2, .slice A0_3 l0_3.length c0_3]) (t := 25) ?hr ?_; (case hd => rfl); (case hg => rfl); (case hr => first | (go_simp; done) | (go_simp; rfl)); intro gb210 hg w3 hbox hb; have n0_ := Aside0.mk (Kd.V_below (Kd.V_elderB (by (with_reducible repeat (first | apply Kd.V_alloc | apply Kd.V_drewN | apply Kd.V_drew)); exact HO0_3.out) gb210 (Nat.le_of_eq hg.symm)) hb); have n1_ := Aside0.mk (below_step (by repeat (first | (with_reducible first | exact HB.out | apply below_alloc | apply pw_below_drewN | apply below_drew1) | exact HB.out)) hb); have n2_ := Aside0.mk (hbox); have n3_ := Aside0.mk ((by rw [hg]; exact (below_size (by repeat (first | (with_reducible first | exact HB.out | apply below_alloc | apply pw_below_drewN | apply below_drew1) | exact HB.out))) : w.heap.size ≤ gb210)); have n4_ := Aside0.mk ((by rw [hg]; exact (below_size (by repeat (first | (with_reducible first | exact HB.out | apply below_alloc | apply pw_below_drewN | apply below_drew1) | exact HB.out))) : w.heap.size ≤ gb210)); clear HO0_3; clear HB; have HO0_3 := n0_; have HB := n1_; have BK210 := n2_; have GW210 := n3_; have GE210 := n4_; clear n0_ n1_ n2_ n3_ n4_; clear hb hbox hg) | ((with_reducible refine gate_dst (N := 2) rfl ?_); refine box_event ?hg (N := 2) ?hd (cs := #[.int .u8 0, .int .u16 0, .bool false, .bool false, .int .i64 0, .int .u8 0, .int .u8 0, .int .u32 0, .int .u32 0, .slice none 0 0, .slice none 0 0]) (t := 37) ?hr ?_; (case hd => rfl); (case hg => rfl); (case hr => first | (go_simp; done) | (go_simp; rfl)); intro gb211 hg w4 hbox hb; have n0_ := Aside0.mk (Kd.V_below (Kd.V_elderB (by (with_reducible repeat (first | apply Kd.V_alloc | apply Kd.V_drewN | apply Kd.V_drew)); exact HO0_3.out) gb211 (Nat.le_of_eq hg.symm)) hb); have n1_ := Aside0.mk (blk_below (g := gb210) (o := .cells #[.int .u8 a0_0, .int .u8 a0_1, .int .u32 a0_2, .slice A0_3 l0_3.length c0_3] 25 (0, 0)) (by (with_reducible repeat (first | refine blk_drewN ?_ _ | refine blk_drew ?_ | refine blk_alloc ?_ _)); exact BK210.out) hb); have n2_ := Aside0.mk (below_step (by repeat (first | (with_reducible first | exact HB.out | apply below_alloc | apply pw_below_drewN | apply below_drew1 | refine below_set ?_ GE210.out) | exact HB.out)) hb); have n3_ := Aside0.mk (hbox); have n4_ := Aside0.mk ((by rw [hg]; exact (below_size (by repeat (first | (with_reducible first | exact HB.out | apply below_alloc | apply pw_below_drewN | apply below_drew1 | refine below_set ?_ GE210.out) | exact HB.out))) : w.heap.size ≤ gb211)); have n5_ := Aside0.mk ((by rw [hg]; exact (below_size (by repeat (first | (with_reducible first | exact HB.out | apply below_alloc | apply pw_below_drewN | apply below_drew1 | refine below_set ?_ GE210.out) | exact HB.out))) : w.heap.size ≤ gb211)); have n6_ := Aside0.mk ((by rw [hg]; exact Nat.ne_of_lt (blk_lt (g := gb210) (o := .cells #[.int .u8 a0_0, .int .u8 a0_1, .int .u32 a0_2, .slice A0_3 l0_3.length c0_3] 25 (0, 0)) (by (with_reducible repeat (first | refine blk_drewN ?_ _ | refine blk_drew ?_ | refine blk_alloc ?_ _)); exact BK210.out)) : gb210 ≠ gb211)); have n7_ := Aside0.mk ((by rw [hg]; exact Nat.ne_of_gt (blk_lt (g := gb210) (o := .cells #[.int .u8 a0_0, .int .u8 a0_1, .int .u32 a0_2, .slice A0_3 l0_3.length c0_3] 25 (0, 0)) (by (with_reducible repeat (first | refine blk_drewN ?_ _ | refine blk_drew ?_ | refine blk_alloc ?_ _)); exact BK210.out)) : gb211 ≠ gb210)); clear HO0_3; clear BK210; clear HB; have HO0_3 := n0_; have BK210 := n1_; have HB := n2_; have BK211 := n3_; have GW211 := n4_; have GE211 := n5_; have NB210_211 := n6_; have NB211_210 := n7_; clear n0_ n1_ n2_ n3_ n4_ n5_ n6_ n7_; clear hb hbox hg; have hnb5 := NB210_211.out; have hnc5 := NB211_210.out; have hcz6 := blk_cell BK210.out; have hfz6 := blk_frozen BK210.out; skip))
 (try simp only [Act.put, List.setIfInBounds_toArray, List.set_cons_zero, List.set_cons_succ])
 go_cut [16] (fun v16 wc => ∃ (kq : Nat) (x16_1 : Bool), v16 = .bool x16_1 ∧ Aside0 (towroperef07_Cause.j0 kq l0_3 x16_1 = some (r1, r2, r3, r4, r5, r6, r7, r8, r9, r10, r11, r12)) ∧ Aside0 (kq ≤ k) ∧ Aside0 (Kd.V (Kd.int .u8) 5 wc w.heap.size (fun k_ => (P0_3_ k_ ∨ w.heap.size ≤ k_) ∧ k_ ≠ gb210 ∧ k_ ≠ gb211) (.slice A0_3 l0_3.length c0_3) l0_3) ∧ Aside0 (Kd.V (Kd.int .u8) 5 wc w.heap.size (fun k_ => (P0_3_ k_ ∨ w.heap.size ≤ k_) ∧ k_ ≠ gb210 ∧ k_ ≠ gb211) (.slice A0_3 l0_3.length c0_3) l0_3) ∧ Aside0 (wc.heap[gb210]? = some (.cells #[.int .u8 a0_0, .int .u8 a0_1, .int .u32 a0_2, (.slice A0_3 l0_3.length c0_3)] 25 (0, 0))) ∧ Aside0 (wc.heap[gb211]? = some (.cells #[.int .u8 0, .int .u16 0, .bool false, .bool false, .int .i64 0, .int .u8 0, .int .u8 0, .int .u32 0, .int .u32 0, (.slice none 0 0), (.slice none 0 0)] 37 (0, 0))) ∧ Aside0 (Below w.heap.size w wc))
 case first =>
  have H := HC2.out
  clear HC2
  by_cases c7 : a0_0 = 3
  ·
   rw [if_pos c7] at H
   have c7b0 : (a0_0 == 3) = true := beq_iff_eq.mpr c7
   have c7b1 : (a0_0 != 3) = false := bne_eq_false_iff_eq.mpr c7
   clear c7
   (first | rw [c7b0] | (simp only [i64_w, i32_w]; rw [c7b0]) | skip)
   have H' := Aside0.mk H
   clear H
   have hnb8 := NB210_211.out
   have hnc8 := NB211_210.out
   have hcz9 := blk_cell BK210.out
   have hfz9 := blk_frozen BK210.out
   go_wp2
   go_meet
   case rel => exact ⟨_, (false), (by first | rfl | (simp; done) | (simp [*]; done)), H', ⟨by first | omega | exact Nat.le_refl _⟩, ⟨by (with_reducible repeat (first | apply Kd.V_alloc | apply Kd.V_drewN | apply Kd.V_drew)); exact Kd.V_mono HO0_3.out (fun _ hk => ⟨hk.1.1, ⟨hk.1.2, hk.2⟩⟩)⟩, ⟨by (with_reducible repeat (first | apply Kd.V_alloc | apply Kd.V_drewN | apply Kd.V_drew)); exact Kd.V_mono HO0_3.out (fun _ hk => ⟨hk.1.1, ⟨hk.1.2, hk.2⟩⟩)⟩, ⟨by (with_reducible repeat (first | refine blk_drewN ?_ _ | refine blk_drew ?_ | refine blk_alloc ?_ _)); exact BK210.out⟩, ⟨by (with_reducible repeat (first | refine blk_drewN ?_ _ | refine blk_drew ?_ | refine blk_alloc ?_ _)); exact BK211.out⟩, ⟨by repeat (first | (with_reducible first | exact HB.out | apply below_alloc | apply pw_below_drewN | apply below_drew1 | refine below_set ?_ GE210.out | refine below_set ?_ GE211.out) | exact HB.out)⟩⟩
  ·
   rw [if_neg c7] at H
   have c7b0 : (a0_0 == 3) = false := beq_eq_false_iff_ne.mpr c7
   have c7b1 : (a0_0 != 3) = true := bne_iff_ne.mpr c7
   (first | rw [c7b0] | (simp only [i64_w, i32_w]; rw [c7b0]) | skip)
   have H' := Aside0.mk H
   clear H
   have hnb10 := NB210_211.out
   have hnc10 := NB211_210.out
   have hcz11 := blk_cell BK210.out
   have hfz11 := blk_frozen BK210.out
   go_wp2
   go_meet
   case rel => exact ⟨_, ((a0_0 != 11)), (by first | rfl | (simp; done) | (simp [*]; done)), H', ⟨by first | omega | exact Nat.le_refl _⟩, ⟨by (with_reducible repeat (first | apply Kd.V_alloc | apply Kd.V_drewN | apply Kd.V_drew)); exact Kd.V_mono HO0_3.out (fun _ hk => ⟨hk.1.1, ⟨hk.1.2, hk.2⟩⟩)⟩, ⟨by (with_reducible repeat (first | apply Kd.V_alloc | apply Kd.V_drewN | apply Kd.V_drew)); exact Kd.V_mono HO0_3.out (fun _ hk => ⟨hk.1.1, ⟨hk.1.2, hk.2⟩⟩)⟩, ⟨by (with_reducible repeat (first | refine blk_drewN ?_ _ | refine blk_drew ?_ | refine blk_alloc ?_ _)); exact BK210.out⟩, ⟨by (with_reducible repeat (first | refine blk_drewN ?_ _ | refine blk_drew ?_ | refine blk_alloc ?_ _)); exact BK211.out⟩, ⟨by repeat (first | (with_reducible first | exact HB.out | apply below_alloc | apply pw_below_drewN | apply below_drew1 | refine below_set ?_ GE210.out | refine below_set ?_ GE211.out) | exact HB.out)⟩⟩
 case rest =>
  clear HC2
  try clear c1
  try clear p2
  try clear c3
  try clear c5
  try clear c7
  try clear c7b0
  try clear c7b1
  try clear c8
  try clear c10
  try clear hcz11
  try clear hcz6
  try clear hcz9
  try clear hfz11
  try clear hfz6
  try clear hfz9
  obtain ⟨kq, x16_1, rfl, HA, HJ1, HO_4, HO_211003, BK210, BK211, HB⟩ := hcut
  cases kq with
  | zero => exact absurd HA.out (by simp [towroperef07_Cause.j0])
  | succ kj1 =>
   have H := HA.out
   clear HA
   simp only [towroperef07_Cause.j0] at H
   by_cases c12 : x16_1 = true
   ·
    subst c12
    have H1 : (some (0, 0, false, false, 0, 0, 0, 0, 0, ([] : List Int), ([] : List Int), 6)) = some (r1, r2, r3, r4, r5, r6, r7, r8, r9, r10, r11, r12) := by rw [if_pos rfl] at H; exact H
    clear H
    have H := H1
    clear H1
    simp only [Option.some.injEq, Prod.mk.injEq] at H
    obtain ⟨rfl, rfl, rfl, rfl, rfl, rfl, rfl, rfl, rfl, rfl, rfl, rfl⟩ := H
    have hnb13 := NB211_210.out
    have hnc13 := NB210_211.out
    have hcz14 := blk_cell BK211.out
    have hfz14 := blk_frozen BK211.out
    go_wp2_with (first | ((with_reducible refine gate_store (t := 37) (p := 2) rfl ?_); refine store_event (t := 37) (p := 2) (v := ?vo_w15) (w1 := (((((((((((wc.setCell ⟨gb211, 0, none⟩ (.int .u8 0)).setCell ⟨gb211, 1, none⟩ (.int .u16 0)).setCell ⟨gb211, 2, none⟩ (.bool false)).setCell ⟨gb211, 3, none⟩ (.bool false)).setCell ⟨gb211, 4, none⟩ (.int .i64 0)).setCell ⟨gb211, 5, none⟩ (.int .u8 0)).setCell ⟨gb211, 6, none⟩ (.int .u8 0)).setCell ⟨gb211, 7, none⟩ (.int .u32 0)).setCell ⟨gb211, 8, none⟩ (.int .u32 0)).setCell ⟨gb211, 9, none⟩ (.slice none 0 0)).setCell ⟨gb211, 10, none⟩ (.slice none 0 0))) ?hg ?ho ?hn ?hr ?_; (case ho => rfl); (case hg => rfl); (case hn => rfl); (case hr => first | (go_simp; done) | (go_simp; rfl)); intro w15 hw; have n0_ : Aside0 (Kd.V (Kd.int .u8) 5 w15 w.heap.size (fun k_ => (P0_3_ k_ ∨ w.heap.size ≤ k_) ∧ k_ ≠ gb210 ∧ k_ ≠ gb211) (.slice A0_3 l0_3.length c0_3) l0_3) := ⟨(by rw [hw]; exact (by (with_reducible repeat (first | apply Kd.V_alloc | apply Kd.V_drewN | apply Kd.V_drew)); exact Kd.V_mono (Kd.V_far (Kd.V_far (Kd.V_far (Kd.V_far (Kd.V_far (Kd.V_far (Kd.V_far (Kd.V_far (Kd.V_far (Kd.V_far (Kd.V_far (Kd.V_mono HO_4.out (fun k_ hk => (⟨hk, hk.2.2⟩ : _ ∧ k_ ≠ gb211))) (fun _ hk => hk.2) _) (fun _ hk => hk.2) _) (fun _ hk => hk.2) _) (fun _ hk => hk.2) _) (fun _ hk => hk.2) _) (fun _ hk => hk.2) _) (fun _ hk => hk.2) _) (fun _ hk => hk.2) _) (fun _ hk => hk.2) _) (fun _ hk => hk.2) _) (fun _ hk => hk.2) _) (fun _ hk => ⟨hk.1.1, ⟨hk.1.2.1, hk.1.2.2⟩⟩)))⟩; have n1_ : Aside0 (Kd.V (Kd.int .u8) 5 w15 w.heap.size (fun k_ => (P0_3_ k_ ∨ w.heap.size ≤ k_) ∧ k_ ≠ gb210 ∧ k_ ≠ gb211) (.slice A0_3 l0_3.length c0_3) l0_3) := ⟨(by rw [hw]; exact (by (with_reducible repeat (first | apply Kd.V_alloc | apply Kd.V_drewN | apply Kd.V_drew)); exact Kd.V_mono (Kd.V_far (Kd.V_far (Kd.V_far (Kd.V_far (Kd.V_far (Kd.V_far (Kd.V_far (Kd.V_far (Kd.V_far (Kd.V_far (Kd.V_far (Kd.V_mono HO_211003.out (fun k_ hk => (⟨hk, hk.2.2⟩ : _ ∧ k_ ≠ gb211))) (fun _ hk => hk.2) _) (fun _ hk => hk.2) _) (fun _ hk => hk.2) _) (fun _ hk => hk.2) _) (fun _ hk => hk.2) _) (fun _ hk => hk.2) _) (fun _ hk => hk.2) _) (fun _ hk => hk.2) _) (fun _ hk => hk.2) _) (fun _ hk => hk.2) _) (fun _ hk => hk.2) _) (fun _ hk => ⟨hk.1.1, ⟨hk.1.2.1, hk.1.2.2⟩⟩)))⟩; have n2_ : Aside0 (w15.heap[gb210]? = some (.cells #[.int .u8 a0_0, .int .u8 a0_1, .int .u32 a0_2, .slice A0_3 l0_3.length c0_3] 25 (0, 0))) := ⟨(by rw [hw]; exact (by (with_reducible repeat (first | refine blk_drewN ?_ _ | refine blk_drew ?_ | refine blk_alloc ?_ _)); refine blk_far ?_ NB210_211.out _; (with_reducible repeat (first | refine blk_drewN ?_ _ | refine blk_drew ?_ | refine blk_alloc ?_ _)); refine blk_far ?_ NB210_211.out _; (with_reducible repeat (first | refine blk_drewN ?_ _ | refine blk_drew ?_ | refine blk_alloc ?_ _)); refine blk_far ?_ NB210_211.out _; (with_reducible repeat (first | refine blk_drewN ?_ _ | refine blk_drew ?_ | refine blk_alloc ?_ _)); refine blk_far ?_ NB210_211.out _; (with_reducible repeat (first | refine blk_drewN ?_ _ | refine blk_drew ?_ | refine blk_alloc ?_ _)); refine blk_far ?_ NB210_211.out _; (with_reducible repeat (first | refine blk_drewN ?_ _ | refine blk_drew ?_ | refine blk_alloc ?_ _)); refine blk_far ?_ NB210_211.out _; (with_reducible repeat (first | refine blk_drewN ?_ _ | refine blk_drew ?_ | refine blk_alloc ?_ _)); refine blk_far ?_ NB210_211.out _; (with_reducible repeat (first | refine blk_drewN ?_ _ | refine blk_drew ?_ | refine blk_alloc ?_ _)); refine blk_far ?_ NB210_211.out _; (with_reducible repeat (first | refine blk_drewN ?_ _ | refine blk_drew ?_ | refine blk_alloc ?_ _)); refine blk_far ?_ NB210_211.out _; (with_reducible repeat (first | refine blk_drewN ?_ _ | refine blk_drew ?_ | refine blk_alloc ?_ _)); refine blk_far ?_ NB210_211.out _; (with_reducible repeat (first | refine blk_drewN ?_ _ | refine blk_drew ?_ | refine blk_alloc ?_ _)); refine blk_far ?_ NB210_211.out _; (with_reducible repeat (first | refine blk_drewN ?_ _ | refine blk_drew ?_ | refine blk_alloc ?_ _)); exact BK210.out))⟩; have n3_ : Aside0 (w15.heap[gb211]? = some (.cells #[.int .u8 0, .int .u16 0, .bool false, .bool false, .int .i64 0, .int .u8 0, .int .u8 0, .int .u32 0, .int .u32 0, .slice none 0 0, .slice none 0 0] 37 (0, 0))) := ⟨(by rw [hw]; exact (by (with_reducible repeat (first | refine blk_drewN ?_ _ | refine blk_drew ?_ | refine blk_alloc ?_ _)); refine blk_put (cs := #[.int .u8 0, .int .u16 0, .bool false, .bool false, .int .i64 0, .int .u8 0, .int .u8 0, .int .u32 0, .int .u32 0, .slice none 0 0, .slice none 0 0]) ?_ 10 _ rfl; (with_reducible repeat (first | refine blk_drewN ?_ _ | refine blk_drew ?_ | refine blk_alloc ?_ _)); refine blk_put (cs := #[.int .u8 0, .int .u16 0, .bool false, .bool false, .int .i64 0, .int .u8 0, .int .u8 0, .int .u32 0, .int .u32 0, .slice none 0 0, .slice none 0 0]) ?_ 9 _ rfl; (with_reducible repeat (first | refine blk_drewN ?_ _ | refine blk_drew ?_ | refine blk_alloc ?_ _)); refine blk_put (cs := #[.int .u8 0, .int .u16 0, .bool false, .bool false, .int .i64 0, .int .u8 0, .int .u8 0, .int .u32 0, .int .u32 0, .slice none 0 0, .slice none 0 0]) ?_ 8 _ rfl; (with_reducible repeat (first | refine blk_drewN ?_ _ | refine blk_drew ?_ | refine blk_alloc ?_ _)); refine blk_put (cs := #[.int .u8 0, .int .u16 0, .bool false, .bool false, .int .i64 0, .int .u8 0, .int .u8 0, .int .u32 0, .int .u32 0, .slice none 0 0, .slice none 0 0]) ?_ 7 _ rfl; (with_reducible repeat (first | refine blk_drewN ?_ _ | refine blk_drew ?_ | refine blk_alloc ?_ _)); refine blk_put (cs := #[.int .u8 0, .int .u16 0, .bool false, .bool false, .int .i64 0, .int .u8 0, .int .u8 0, .int .u32 0, .int .u32 0, .slice none 0 0, .slice none 0 0]) ?_ 6 _ rfl; (with_reducible repeat (first | refine blk_drewN ?_ _ | refine blk_drew ?_ | refine blk_alloc ?_ _)); refine blk_put (cs := #[.int .u8 0, .int .u16 0, .bool false, .bool false, .int .i64 0, .int .u8 0, .int .u8 0, .int .u32 0, .int .u32 0, .slice none 0 0, .slice none 0 0]) ?_ 5 _ rfl; (with_reducible repeat (first | refine blk_drewN ?_ _ | refine blk_drew ?_ | refine blk_alloc ?_ _)); refine blk_put (cs := #[.int .u8 0, .int .u16 0, .bool false, .bool false, .int .i64 0, .int .u8 0, .int .u8 0, .int .u32 0, .int .u32 0, .slice none 0 0, .slice none 0 0]) ?_ 4 _ rfl; (with_reducible repeat (first | refine blk_drewN ?_ _ | refine blk_drew ?_ | refine blk_alloc ?_ _)); refine blk_put (cs := #[.int .u8 0, .int .u16 0, .bool false, .bool false, .int .i64 0, .int .u8 0, .int .u8 0, .int .u32 0, .int .u32 0, .slice none 0 0, .slice none 0 0]) ?_ 3 _ rfl; (with_reducible repeat (first | refine blk_drewN ?_ _ | refine blk_drew ?_ | refine blk_alloc ?_ _)); refine blk_put (cs := #[.int .u8 0, .int .u16 0, .bool false, .bool false, .int .i64 0, .int .u8 0, .int .u8 0, .int .u32 0, .int .u32 0, .slice none 0 0, .slice none 0 0]) ?_ 2 _ rfl; (with_reducible repeat (first | refine blk_drewN ?_ _ | refine blk_drew ?_ | refine blk_alloc ?_ _)); refine blk_put (cs := #[.int .u8 0, .int .u16 0, .bool false, .bool false, .int .i64 0, .int .u8 0, .int .u8 0, .int .u32 0, .int .u32 0, .slice none 0 0, .slice none 0 0]) ?_ 1 _ rfl; (with_reducible repeat (first | refine blk_drewN ?_ _ | refine blk_drew ?_ | refine blk_alloc ?_ _)); refine blk_put (cs := #[.int .u8 0, .int .u16 0, .bool false, .bool false, .int .i64 0, .int .u8 0, .int .u8 0, .int .u32 0, .int .u32 0, .slice none 0 0, .slice none 0 0]) ?_ 0 _ rfl; (with_reducible repeat (first | refine blk_drewN ?_ _ | refine blk_drew ?_ | refine blk_alloc ?_ _)); exact BK211.out))⟩; have n4_ : Aside0 (Below w.heap.size w w15) := ⟨(by rw [hw]; exact (by repeat (first | (with_reducible first | exact HB.out | apply below_alloc | apply pw_below_drewN | apply below_drew1 | refine below_set ?_ GE210.out | refine below_set ?_ GE211.out) | exact HB.out)))⟩; clear hw; clear HO_4; clear HO_211003; clear BK210; clear BK211; clear HB; have HO_4 := n0_; have HO_211003 := n1_; have BK210 := n2_; have BK211 := n3_; have HB := n4_; clear n0_ n1_ n2_ n3_ n4_))
    refine bodyPost_ret (results_ct rfl _ _ gb211 37 #[.int .u8 0, .int .u16 0, .bool false, .bool false, .int .i64 0, .int .u8 0, .int .u8 0, .int .u32 0, .int .u32 0, .slice none 0 0, .slice none 0 0] (0, 0) _ rfl (by (with_reducible repeat (first | refine blk_drewN ?_ _ | refine blk_drew ?_ | refine blk_alloc ?_ _)); exact BK211.out) Try.underlying37 rfl (by kernel_rfl)) rfl ?_
    exact ⟨_, _, by first | rfl | (simp [errW_none, errW_some] <;> rfl) | (simp [*, errW_none, errW_some] <;> rfl), Kd.V_nil _ _ _ _ _, Kd.V_nil _ _ _ _ _, by repeat (first | (with_reducible first | exact HB.out | apply below_alloc | apply pw_below_drewN | apply below_drew1 | refine below_set ?_ GE210.out | refine below_set ?_ GE211.out) | exact HB.out)⟩
   ·
    replace c12 := Bool.eq_false_iff.mpr c12
    subst c12
    have H1 : (if (l0_3.length : Int) < 28 then (some (0, 0, false, false, 0, 0, 0, 0, 0, ([] : List Int), ([] : List Int), 2)) else (if 0 < (l0_3.length : Int) then (if (rd l0_3 0) < 69 then (towroperef07_Cause.j1 kj1 l0_3 true) else (towroperef07_Cause.j1 kj1 l0_3 (decide ((rd l0_3 0) > 79)))) else (none))) = some (r1, r2, r3, r4, r5, r6, r7, r8, r9, r10, r11, r12) := by rw [if_neg (show ¬ (false = true) by decide)] at H; exact H
    clear H
    have H := H1
    clear H1
    by_cases c16 : (l0_3.length : Int) < 28
    ·
     rw [if_pos c16] at H
     have c16b0 : decide ((l0_3.length : Int) < 28) = true := decide_eq_true c16
     have c16b1 : decide (l0_3.length < 28) = true := decide_eq_true (by omega)
     clear c16
     simp only [Option.some.injEq, Prod.mk.injEq] at H
     obtain ⟨rfl, rfl, rfl, rfl, rfl, rfl, rfl, rfl, rfl, rfl, rfl, rfl⟩ := H
     have hnb17 := NB211_210.out
     have hnc17 := NB210_211.out
     have hcz18 := blk_cell BK211.out
     have hfz18 := blk_frozen BK211.out
     go_wp2_with (first | ((with_reducible refine gate_store (t := 37) (p := 2) rfl ?_); refine store_event (t := 37) (p := 2) (v := ?vo_w19) (w1 := (((((((((((wc.setCell ⟨gb211, 0, none⟩ (.int .u8 0)).setCell ⟨gb211, 1, none⟩ (.int .u16 0)).setCell ⟨gb211, 2, none⟩ (.bool false)).setCell ⟨gb211, 3, none⟩ (.bool false)).setCell ⟨gb211, 4, none⟩ (.int .i64 0)).setCell ⟨gb211, 5, none⟩ (.int .u8 0)).setCell ⟨gb211, 6, none⟩ (.int .u8 0)).setCell ⟨gb211, 7, none⟩ (.int .u32 0)).setCell ⟨gb211, 8, none⟩ (.int .u32 0)).setCell ⟨gb211, 9, none⟩ (.slice none 0 0)).setCell ⟨gb211, 10, none⟩ (.slice none 0 0))) ?hg ?ho ?hn ?hr ?_; (case ho => rfl); (case hg => rfl); (case hn => rfl); (case hr => first | (go_simp; done) | (go_simp; rfl)); intro w19 hw; have n0_ : Aside0 (Kd.V (Kd.int .u8) 5 w19 w.heap.size (fun k_ => (P0_3_ k_ ∨ w.heap.size ≤ k_) ∧ k_ ≠ gb210 ∧ k_ ≠ gb211) (.slice A0_3 l0_3.length c0_3) l0_3) := ⟨(by rw [hw]; exact (by (with_reducible repeat (first | apply Kd.V_alloc | apply Kd.V_drewN | apply Kd.V_drew)); exact Kd.V_mono (Kd.V_far (Kd.V_far (Kd.V_far (Kd.V_far (Kd.V_far (Kd.V_far (Kd.V_far (Kd.V_far (Kd.V_far (Kd.V_far (Kd.V_far (Kd.V_mono HO_4.out (fun k_ hk => (⟨hk, hk.2.2⟩ : _ ∧ k_ ≠ gb211))) (fun _ hk => hk.2) _) (fun _ hk => hk.2) _) (fun _ hk => hk.2) _) (fun _ hk => hk.2) _) (fun _ hk => hk.2) _) (fun _ hk => hk.2) _) (fun _ hk => hk.2) _) (fun _ hk => hk.2) _) (fun _ hk => hk.2) _) (fun _ hk => hk.2) _) (fun _ hk => hk.2) _) (fun _ hk => ⟨hk.1.1, ⟨hk.1.2.1, hk.1.2.2⟩⟩)))⟩; have n1_ : Aside0 (Kd.V (Kd.int .u8) 5 w19 w.heap.size (fun k_ => (P0_3_ k_ ∨ w.heap.size ≤ k_) ∧ k_ ≠ gb210 ∧ k_ ≠ gb211) (.slice A0_3 l0_3.length c0_3) l0_3) := ⟨(by rw [hw]; exact (by (with_reducible repeat (first | apply Kd.V_alloc | apply Kd.V_drewN | apply Kd.V_drew)); exact Kd.V_mono (Kd.V_far (Kd.V_far (Kd.V_far (Kd.V_far (Kd.V_far (Kd.V_far (Kd.V_far (Kd.V_far (Kd.V_far (Kd.V_far (Kd.V_far (Kd.V_mono HO_211003.out (fun k_ hk => (⟨hk, hk.2.2⟩ : _ ∧ k_ ≠ gb211))) (fun _ hk => hk.2) _) (fun _ hk => hk.2) _) (fun _ hk => hk.2) _) (fun _ hk => hk.2) _) (fun _ hk => hk.2) _) (fun _ hk => hk.2) _) (fun _ hk => hk.2) _) (fun _ hk => hk.2) _) (fun _ hk => hk.2) _) (fun _ hk => hk.2) _) (fun _ hk => hk.2) _) (fun _ hk => ⟨hk.1.1, ⟨hk.1.2.1, hk.1.2.2⟩⟩)))⟩; have n2_ : Aside0 (w19.heap[gb210]? = some (.cells #[.int .u8 a0_0, .int .u8 a0_1, .int .u32 a0_2, .slice A0_3 l0_3.length c0_3] 25 (0, 0))) := ⟨(by rw [hw]; exact (by (with_reducible repeat (first | refine blk_drewN ?_ _ | refine blk_drew ?_ | refine blk_alloc ?_ _)); refine blk_far ?_ NB210_211.out _; (with_reducible repeat (first | refine blk_drewN ?_ _ | refine blk_drew ?_ | refine blk_alloc ?_ _)); refine blk_far ?_ NB210_211.out _; (with_reducible repeat (first | refine blk_drewN ?_ _ | refine blk_drew ?_ | refine blk_alloc ?_ _)); refine blk_far ?_ NB210_211.out _; (with_reducible repeat (first | refine blk_drewN ?_ _ | refine blk_drew ?_ | refine blk_alloc ?_ _)); refine blk_far ?_ NB210_211.out _; (with_reducible repeat (first | refine blk_drewN ?_ _ | refine blk_drew ?_ | refine blk_alloc ?_ _)); refine blk_far ?_ NB210_211.out _; (with_reducible repeat (first | refine blk_drewN ?_ _ | refine blk_drew ?_ | refine blk_alloc ?_ _)); refine blk_far ?_ NB210_211.out _; (with_reducible repeat (first | refine blk_drewN ?_ _ | refine blk_drew ?_ | refine blk_alloc ?_ _)); refine blk_far ?_ NB210_211.out _; (with_reducible repeat (first | refine blk_drewN ?_ _ | refine blk_drew ?_ | refine blk_alloc ?_ _)); refine blk_far ?_ NB210_211.out _; (with_reducible repeat (first | refine blk_drewN ?_ _ | refine blk_drew ?_ | refine blk_alloc ?_ _)); refine blk_far ?_ NB210_211.out _; (with_reducible repeat (first | refine blk_drewN ?_ _ | refine blk_drew ?_ | refine blk_alloc ?_ _)); refine blk_far ?_ NB210_211.out _; (with_reducible repeat (first | refine blk_drewN ?_ _ | refine blk_drew ?_ | refine blk_alloc ?_ _)); refine blk_far ?_ NB210_211.out _; (with_reducible repeat (first | refine blk_drewN ?_ _ | refine blk_drew ?_ | refine blk_alloc ?_ _)); exact BK210.out))⟩; have n3_ : Aside0 (w19.heap[gb211]? = some (.cells #[.int .u8 0, .int .u16 0, .bool false, .bool false, .int .i64 0, .int .u8 0, .int .u8 0, .int .u32 0, .int .u32 0, .slice none 0 0, .slice none 0 0] 37 (0, 0))) := ⟨(by rw [hw]; exact (by (with_reducible repeat (first | refine blk_drewN ?_ _ | refine blk_drew ?_ | refine blk_alloc ?_ _)); refine blk_put (cs := #[.int .u8 0, .int .u16 0, .bool false, .bool false, .int .i64 0, .int .u8 0, .int .u8 0, .int .u32 0, .int .u32 0, .slice none 0 0, .slice none 0 0]) ?_ 10 _ rfl; (with_reducible repeat (first | refine blk_drewN ?_ _ | refine blk_drew ?_ | refine blk_alloc ?_ _)); refine blk_put (cs := #[.int .u8 0, .int .u16 0, .bool false, .bool false, .int .i64 0, .int .u8 0, .int .u8 0, .int .u32 0, .int .u32 0, .slice none 0 0, .slice none 0 0]) ?_ 9 _ rfl; (with_reducible repeat (first | refine blk_drewN ?_ _ | refine blk_drew ?_ | refine blk_alloc ?_ _)); refine blk_put (cs := #[.int .u8 0, .int .u16 0, .bool false, .bool false, .int .i64 0, .int .u8 0, .int .u8 0, .int .u32 0, .int .u32 0, .slice none 0 0, .slice none 0 0]) ?_ 8 _ rfl; (with_reducible repeat (first | refine blk_drewN ?_ _ | refine blk_drew ?_ | refine blk_alloc ?_ _)); refine blk_put (cs := #[.int .u8 0, .int .u16 0, .bool false, .bool false, .int .i64 0, .int .u8 0, .int .u8 0, .int .u32 0, .int .u32 0, .slice none 0 0, .slice none 0 0]) ?_ 7 _ rfl; (with_reducible repeat (first | refine blk_drewN ?_ _ | refine blk_drew ?_ | refine blk_alloc ?_ _)); refine blk_put (cs := #[.int .u8 0, .int .u16 0, .bool false, .bool false, .int .i64 0, .int .u8 0, .int .u8 0, .int .u32 0, .int .u32 0, .slice none 0 0, .slice none 0 0]) ?_ 6 _ rfl; (with_reducible repeat (first | refine blk_drewN ?_ _ | refine blk_drew ?_ | refine blk_alloc ?_ _)); refine blk_put (cs := #[.int .u8 0, .int .u16 0, .bool false, .bool false, .int .i64 0, .int .u8 0, .int .u8 0, .int .u32 0, .int .u32 0, .slice none 0 0, .slice none 0 0]) ?_ 5 _ rfl; (with_reducible repeat (first | refine blk_drewN ?_ _ | refine blk_drew ?_ | refine blk_alloc ?_ _)); refine blk_put (cs := #[.int .u8 0, .int .u16 0, .bool false, .bool false, .int .i64 0, .int .u8 0, .int .u8 0, .int .u32 0, .int .u32 0, .slice none 0 0, .slice none 0 0]) ?_ 4 _ rfl; (with_reducible repeat (first | refine blk_drewN ?_ _ | refine blk_drew ?_ | refine blk_alloc ?_ _)); refine blk_put (cs := #[.int .u8 0, .int .u16 0, .bool false, .bool false, .int .i64 0, .int .u8 0, .int .u8 0, .int .u32 0, .int .u32 0, .slice none 0 0, .slice none 0 0]) ?_ 3 _ rfl; (with_reducible repeat (first | refine blk_drewN ?_ _ | refine blk_drew ?_ | refine blk_alloc ?_ _)); refine blk_put (cs := #[.int .u8 0, .int .u16 0, .bool false, .bool false, .int .i64 0, .int .u8 0, .int .u8 0, .int .u32 0, .int .u32 0, .slice none 0 0, .slice none 0 0]) ?_ 2 _ rfl; (with_reducible repeat (first | refine blk_drewN ?_ _ | refine blk_drew ?_ | refine blk_alloc ?_ _)); refine blk_put (cs := #[.int .u8 0, .int .u16 0, .bool false, .bool false, .int .i64 0, .int .u8 0, .int .u8 0, .int .u32 0, .int .u32 0, .slice none 0 0, .slice none 0 0]) ?_ 1 _ rfl; (with_reducible repeat (first | refine blk_drewN ?_ _ | refine blk_drew ?_ | refine blk_alloc ?_ _)); refine blk_put (cs := #[.int .u8 0, .int .u16 0, .bool false, .bool false, .int .i64 0, .int .u8 0, .int .u8 0, .int .u32 0, .int .u32 0, .slice none 0 0, .slice none 0 0]) ?_ 0 _ rfl; (with_reducible repeat (first | refine blk_drewN ?_ _ | refine blk_drew ?_ | refine blk_alloc ?_ _)); exact BK211.out))⟩; have n4_ : Aside0 (Below w.heap.size w w19) := ⟨(by rw [hw]; exact (by repeat (first | (with_reducible first | exact HB.out | apply below_alloc | apply pw_below_drewN | apply below_drew1 | refine below_set ?_ GE210.out | refine below_set ?_ GE211.out) | exact HB.out)))⟩; clear hw; clear HO_4; clear HO_211003; clear BK210; clear BK211; clear HB; have HO_4 := n0_; have HO_211003 := n1_; have BK210 := n2_; have BK211 := n3_; have HB := n4_; clear n0_ n1_ n2_ n3_ n4_))
     refine bodyPost_ret (results_ct rfl _ _ gb211 37 #[.int .u8 0, .int .u16 0, .bool false, .bool false, .int .i64 0, .int .u8 0, .int .u8 0, .int .u32 0, .int .u32 0, .slice none 0 0, .slice none 0 0] (0, 0) _ rfl (by (with_reducible repeat (first | refine blk_drewN ?_ _ | refine blk_drew ?_ | refine blk_alloc ?_ _)); exact BK211.out) Try.underlying37 rfl (by kernel_rfl)) rfl ?_
     exact ⟨_, _, by first | rfl | (simp [errW_none, errW_some] <;> rfl) | (simp [*, errW_none, errW_some] <;> rfl), Kd.V_nil _ _ _ _ _, Kd.V_nil _ _ _ _ _, by repeat (first | (with_reducible first | exact HB.out | apply below_alloc | apply pw_below_drewN | apply below_drew1 | refine below_set ?_ GE210.out | refine below_set ?_ GE211.out) | exact HB.out)⟩
    ·
     rw [if_neg c16] at H
     have c16b0 : decide ((l0_3.length : Int) < 28) = false := decide_eq_false c16
     have c16b1 : decide (l0_3.length < 28) = false := decide_eq_false (by omega)
     clear c16
     have HC20 := Aside0.mk H
     clear H
     go_upto_region 6 with (fail)
     go_cut [31] (fun v31 wc => ∃ (kq : Nat) (x31_19 : Bool), v31 = .bool x31_19 ∧ Aside0 (towroperef07_Cause.j1 kq l0_3 x31_19 = some (r1, r2, r3, r4, r5, r6, r7, r8, r9, r10, r11, r12)) ∧ Aside0 (kq ≤ kj1) ∧ Aside0 (Kd.V (Kd.int .u8) 5 wc w.heap.size (fun k_ => (P0_3_ k_ ∨ w.heap.size ≤ k_) ∧ k_ ≠ gb210 ∧ k_ ≠ gb211) (.slice A0_3 l0_3.length c0_3) l0_3) ∧ Aside0 (Kd.V (Kd.int .u8) 5 wc w.heap.size (fun k_ => (P0_3_ k_ ∨ w.heap.size ≤ k_) ∧ k_ ≠ gb210 ∧ k_ ≠ gb211) (.slice A0_3 l0_3.length c0_3) l0_3) ∧ Aside0 (wc.heap[gb210]? = some (.cells #[.int .u8 a0_0, .int .u8 a0_1, .int .u32 a0_2, (.slice A0_3 l0_3.length c0_3)] 25 (0, 0))) ∧ Aside0 (wc.heap[gb211]? = some (.cells #[.int .u8 0, .int .u16 0, .bool false, .bool false, .int .i64 0, .int .u8 0, .int .u8 0, .int .u32 0, .int .u32 0, (.slice none 0 0), (.slice none 0 0)] 37 (0, 0))) ∧ Aside0 (Below w.heap.size w wc))
     case first =>
      have H := HC20.out
      clear HC20
      by_cases c21 : 0 < (l0_3.length : Int)
      ·
       rw [if_pos c21] at H
       have c21b0 : decide (0 < (l0_3.length : Int)) = true := decide_eq_true c21
       have c21b1 : decide (0 < l0_3.length) = true := decide_eq_true (by omega)
       clear c21
       (first | rw [c21b0] | (simp only [i64_w, i32_w]; rw [c21b0]) | skip)
       by_cases c22 : (rd l0_3 0) < 69
       ·
        rw [if_pos c22] at H
        have c22b0 : decide ((rd l0_3 0) < 69) = true := decide_eq_true c22
        clear c22
        have H' := Aside0.mk H
        clear H
        have p212 : 0 ≤ (0 : Int) := (by omega)
        have q212 : 0 < (l0_3.length : Int) := of_decide_eq_true (by first | (with_reducible assumption) | assumption)
        obtain ⟨ad212, e212, hx212_0⟩ := Kd.at_int (Kd.V_reads' HO_4.out).2.2 0 p212 q212
        cases e212
        have qi212 : (0 < l0_3.length) = True := eq_true (by omega)
        (try rw [show ((0 : Int)).toNat = 0 from rfl] at hx212_0)
        (try rw [Addr.add_zero'] at hx212_0)
        replace p212 := eq_true p212
        replace q212 := eq_true q212
        go_wp2
        go_meet
        case rel => exact ⟨_, (true), (by first | rfl | (simp; done) | (simp [*]; done)), H', ⟨by have := HJ1.out; first | omega | exact Nat.le_refl _⟩, ⟨by (with_reducible repeat (first | apply Kd.V_alloc | apply Kd.V_drewN | apply Kd.V_drew)); exact HO_4.out⟩, ⟨by (with_reducible repeat (first | apply Kd.V_alloc | apply Kd.V_drewN | apply Kd.V_drew)); exact HO_211003.out⟩, ⟨by (with_reducible repeat (first | refine blk_drewN ?_ _ | refine blk_drew ?_ | refine blk_alloc ?_ _)); exact BK210.out⟩, ⟨by (with_reducible repeat (first | refine blk_drewN ?_ _ | refine blk_drew ?_ | refine blk_alloc ?_ _)); exact BK211.out⟩, ⟨by repeat (first | (with_reducible first | exact HB.out | apply below_alloc | apply pw_below_drewN | apply below_drew1 | refine below_set ?_ GE210.out | refine below_set ?_ GE211.out) | exact HB.out)⟩⟩
       ·
        rw [if_neg c22] at H
        have c22b0 : decide ((rd l0_3 0) < 69) = false := decide_eq_false c22
        clear c22
        have H' := Aside0.mk H
        clear H
        have p212 : 0 ≤ (0 : Int) := (by omega)
        have q212 : 0 < (l0_3.length : Int) := of_decide_eq_true (by first | (with_reducible assumption) | assumption)
        obtain ⟨ad212, e212, hx212_0⟩ := Kd.at_int (Kd.V_reads' HO_4.out).2.2 0 p212 q212
        cases e212
        have qi212 : (0 < l0_3.length) = True := eq_true (by omega)
        (try rw [show ((0 : Int)).toNat = 0 from rfl] at hx212_0)
        (try rw [Addr.add_zero'] at hx212_0)
        replace p212 := eq_true p212
        replace q212 := eq_true q212
        have p213 : 0 ≤ (0 : Int) := (by omega)
        have q213 : 0 < (l0_3.length : Int) := of_decide_eq_true (by first | (with_reducible assumption) | assumption)
        obtain ⟨ad213, e213, hx213_0⟩ := Kd.at_int (Kd.V_reads' HO_4.out).2.2 0 p213 q213
        obtain rfl : ad212 = ad213 := (by injection e213)
        have qi213 : (0 < l0_3.length) = True := eq_true (by omega)
        (try rw [show ((0 : Int)).toNat = 0 from rfl] at hx213_0)
        (try rw [Addr.add_zero'] at hx213_0)
        replace p213 := eq_true p213
        replace q213 := eq_true q213
        go_wp2
        go_meet
        case rel => exact ⟨_, (decide ((rd l0_3 0) > 79)), (by first | rfl | (simp; done) | (simp [*]; done)), H', ⟨by have := HJ1.out; first | omega | exact Nat.le_refl _⟩, ⟨by (with_reducible repeat (first | apply Kd.V_alloc | apply Kd.V_drewN | apply Kd.V_drew)); exact HO_4.out⟩, ⟨by (with_reducible repeat (first | apply Kd.V_alloc | apply Kd.V_drewN | apply Kd.V_drew)); exact HO_211003.out⟩, ⟨by (with_reducible repeat (first | refine blk_drewN ?_ _ | refine blk_drew ?_ | refine blk_alloc ?_ _)); exact BK210.out⟩, ⟨by (with_reducible repeat (first | refine blk_drewN ?_ _ | refine blk_drew ?_ | refine blk_alloc ?_ _)); exact BK211.out⟩, ⟨by repeat (first | (with_reducible first | exact HB.out | apply below_alloc | apply pw_below_drewN | apply below_drew1 | refine below_set ?_ GE210.out | refine below_set ?_ GE211.out) | exact HB.out)⟩⟩
      ·
       rw [if_neg c21] at H
       exact absurd H (by simp)
     case rest =>
      clear HC20
      try clear c1
      try clear c2
      try clear p2
      try clear q2
      try clear hx2
      try clear qi2
      try clear c3
      try clear c5
      try clear c7
      try clear c7b0
      try clear c7b1
      try clear c8
      try clear c10
      try clear c12
      try clear c13
      try clear c16
      try clear c16b0
      try clear c16b1
      try clear c17
      try clear c21
      try clear c21b0
      try clear c21b1
      try clear p21
      try clear q21
      try clear hx21
      try clear qi21
      try clear c22
      try clear c22b0
      try clear hcz11
      try clear hcz14
      try clear hcz18
      try clear hcz6
      try clear hcz9
      try clear hfz11
      try clear hfz14
      try clear hfz18
      try clear hfz6
      try clear hfz9
      try clear hx212_0
      try clear hx213_0
      try clear p2
      try clear p212
      try clear p213
      try clear q212
      try clear q213
      obtain ⟨kq, x31_19, rfl, HA, HJ19, HO_4, HO_211003, BK210, BK211, HB⟩ := hcut
      cases kq with
      | zero => exact absurd HA.out (by simp [towroperef07_Cause.j1])
      | succ kj19 =>
       have H := HA.out
       clear HA
       simp only [towroperef07_Cause.j1] at H
       by_cases c23 : x31_19 = true
       ·
        subst c23
        have H1 : (some (0, 0, false, false, 0, 0, 0, 0, 0, ([] : List Int), ([] : List Int), 3)) = some (r1, r2, r3, r4, r5, r6, r7, r8, r9, r10, r11, r12) := by rw [if_pos rfl] at H; exact H
        clear H
        have H := H1
        clear H1
        simp only [Option.some.injEq, Prod.mk.injEq] at H
        obtain ⟨rfl, rfl, rfl, rfl, rfl, rfl, rfl, rfl, rfl, rfl, rfl, rfl⟩ := H
        have hnb24 := NB211_210.out
        have hnc24 := NB210_211.out
        have hcz25 := blk_cell BK211.out
        have hfz25 := blk_frozen BK211.out
        go_wp2_with (first | ((with_reducible refine gate_store (t := 37) (p := 2) rfl ?_); refine store_event (t := 37) (p := 2) (v := ?vo_w26) (w1 := (((((((((((wc.setCell ⟨gb211, 0, none⟩ (.int .u8 0)).setCell ⟨gb211, 1, none⟩ (.int .u16 0)).setCell ⟨gb211, 2, none⟩ (.bool false)).setCell ⟨gb211, 3, none⟩ (.bool false)).setCell ⟨gb211, 4, none⟩ (.int .i64 0)).setCell ⟨gb211, 5, none⟩ (.int .u8 0)).setCell ⟨gb211, 6, none⟩ (.int .u8 0)).setCell ⟨gb211, 7, none⟩ (.int .u32 0)).setCell ⟨gb211, 8, none⟩ (.int .u32 0)).setCell ⟨gb211, 9, none⟩ (.slice none 0 0)).setCell ⟨gb211, 10, none⟩ (.slice none 0 0))) ?hg ?ho ?hn ?hr ?_; (case ho => rfl); (case hg => rfl); (case hn => rfl); (case hr => first | (go_simp; done) | (go_simp; rfl)); intro w26 hw; have n0_ : Aside0 (Kd.V (Kd.int .u8) 5 w26 w.heap.size (fun k_ => (P0_3_ k_ ∨ w.heap.size ≤ k_) ∧ k_ ≠ gb210 ∧ k_ ≠ gb211) (.slice A0_3 l0_3.length c0_3) l0_3) := ⟨(by rw [hw]; exact (by (with_reducible repeat (first | apply Kd.V_alloc | apply Kd.V_drewN | apply Kd.V_drew)); exact Kd.V_mono (Kd.V_far (Kd.V_far (Kd.V_far (Kd.V_far (Kd.V_far (Kd.V_far (Kd.V_far (Kd.V_far (Kd.V_far (Kd.V_far (Kd.V_far (Kd.V_mono HO_4.out (fun k_ hk => (⟨hk, hk.2.2⟩ : _ ∧ k_ ≠ gb211))) (fun _ hk => hk.2) _) (fun _ hk => hk.2) _) (fun _ hk => hk.2) _) (fun _ hk => hk.2) _) (fun _ hk => hk.2) _) (fun _ hk => hk.2) _) (fun _ hk => hk.2) _) (fun _ hk => hk.2) _) (fun _ hk => hk.2) _) (fun _ hk => hk.2) _) (fun _ hk => hk.2) _) (fun _ hk => ⟨hk.1.1, ⟨hk.1.2.1, hk.1.2.2⟩⟩)))⟩; have n1_ : Aside0 (Kd.V (Kd.int .u8) 5 w26 w.heap.size (fun k_ => (P0_3_ k_ ∨ w.heap.size ≤ k_) ∧ k_ ≠ gb210 ∧ k_ ≠ gb211) (.slice A0_3 l0_3.length c0_3) l0_3) := ⟨(by rw [hw]; exact (by (with_reducible repeat (first | apply Kd.V_alloc | apply Kd.V_drewN | apply Kd.V_drew)); exact Kd.V_mono (Kd.V_far (Kd.V_far (Kd.V_far (Kd.V_far (Kd.V_far (Kd.V_far (Kd.V_far (Kd.V_far (Kd.V_far (Kd.V_far (Kd.V_far (Kd.V_mono HO_211003.out (fun k_ hk => (⟨hk, hk.2.2⟩ : _ ∧ k_ ≠ gb211))) (fun _ hk => hk.2) _) (fun _ hk => hk.2) _) (fun _ hk => hk.2) _) (fun _ hk => hk.2) _) (fun _ hk => hk.2) _) (fun _ hk => hk.2) _) (fun _ hk => hk.2) _) (fun _ hk => hk.2) _) (fun _ hk => hk.2) _) (fun _ hk => hk.2) _) (fun _ hk => hk.2) _) (fun _ hk => ⟨hk.1.1, ⟨hk.1.2.1, hk.1.2.2⟩⟩)))⟩; have n2_ : Aside0 (w26.heap[gb210]? = some (.cells #[.int .u8 a0_0, .int .u8 a0_1, .int .u32 a0_2, .slice A0_3 l0_3.length c0_3] 25 (0, 0))) := ⟨(by rw [hw]; exact (by (with_reducible repeat (first | refine blk_drewN ?_ _ | refine blk_drew ?_ | refine blk_alloc ?_ _)); refine blk_far ?_ NB210_211.out _; (with_reducible repeat (first | refine blk_drewN ?_ _ | refine blk_drew ?_ | refine blk_alloc ?_ _)); refine blk_far ?_ NB210_211.out _; (with_reducible repeat (first | refine blk_drewN ?_ _ | refine blk_drew ?_ | refine blk_alloc ?_ _)); refine blk_far ?_ NB210_211.out _; (with_reducible repeat (first | refine blk_drewN ?_ _ | refine blk_drew ?_ | refine blk_alloc ?_ _)); refine blk_far ?_ NB210_211.out _; (with_reducible repeat (first | refine blk_drewN ?_ _ | refine blk_drew ?_ | refine blk_alloc ?_ _)); refine blk_far ?_ NB210_211.out _; (with_reducible repeat (first | refine blk_drewN ?_ _ | refine blk_drew ?_ | refine blk_alloc ?_ _)); refine blk_far ?_ NB210_211.out _; (with_reducible repeat (first | refine blk_drewN ?_ _ | refine blk_drew ?_ | refine blk_alloc ?_ _)); refine blk_far ?_ NB210_211.out _; (with_reducible repeat (first | refine blk_drewN ?_ _ | refine blk_drew ?_ | refine blk_alloc ?_ _)); refine blk_far ?_ NB210_211.out _; (with_reducible repeat (first | refine blk_drewN ?_ _ | refine blk_drew ?_ | refine blk_alloc ?_ _)); refine blk_far ?_ NB210_211.out _; (with_reducible repeat (first | refine blk_drewN ?_ _ | refine blk_drew ?_ | refine blk_alloc ?_ _)); refine blk_far ?_ NB210_211.out _; (with_reducible repeat (first | refine blk_drewN ?_ _ | refine blk_drew ?_ | refine blk_alloc ?_ _)); refine blk_far ?_ NB210_211.out _; (with_reducible repeat (first | refine blk_drewN ?_ _ | refine blk_drew ?_ | refine blk_alloc ?_ _)); exact BK210.out))⟩; have n3_ : Aside0 (w26.heap[gb211]? = some (.cells #[.int .u8 0, .int .u16 0, .bool false, .bool false, .int .i64 0, .int .u8 0, .int .u8 0, .int .u32 0, .int .u32 0, .slice none 0 0, .slice none 0 0] 37 (0, 0))) := ⟨(by rw [hw]; exact (by (with_reducible repeat (first | refine blk_drewN ?_ _ | refine blk_drew ?_ | refine blk_alloc ?_ _)); refine blk_put (cs := #[.int .u8 0, .int .u16 0, .bool false, .bool false, .int .i64 0, .int .u8 0, .int .u8 0, .int .u32 0, .int .u32 0, .slice none 0 0, .slice none 0 0]) ?_ 10 _ rfl; (with_reducible repeat (first | refine blk_drewN ?_ _ | refine blk_drew ?_ | refine blk_alloc ?_ _)); refine blk_put (cs := #[.int .u8 0, .int .u16 0, .bool false, .bool false, .int .i64 0, .int .u8 0, .int .u8 0, .int .u32 0, .int .u32 0, .slice none 0 0, .slice none 0 0]) ?_ 9 _ rfl; (with_reducible repeat (first | refine blk_drewN ?_ _ | refine blk_drew ?_ | refine blk_alloc ?_ _)); refine blk_put (cs := #[.int .u8 0, .int .u16 0, .bool false, .bool false, .int .i64 0, .int .u8 0, .int .u8 0, .int .u32 0, .int .u32 0, .slice none 0 0, .slice none 0 0]) ?_ 8 _ rfl; (with_reducible repeat (first | refine blk_drewN ?_ _ | refine blk_drew ?_ | refine blk_alloc ?_ _)); refine blk_put (cs := #[.int .u8 0, .int .u16 0, .bool false, .bool false, .int .i64 0, .int .u8 0, .int .u8 0, .int .u32 0, .int .u32 0, .slice none 0 0, .slice none 0 0]) ?_ 7 _ rfl; (with_reducible repeat (first | refine blk_drewN ?_ _ | refine blk_drew ?_ | refine blk_alloc ?_ _)); refine blk_put (cs := #[.int .u8 0, .int .u16 0, .bool false, .bool false, .int .i64 0, .int .u8 0, .int .u8 0, .int .u32 0, .int .u32 0, .slice none 0 0, .slice none 0 0]) ?_ 6 _ rfl; (with_reducible repeat (first | refine blk_drewN ?_ _ | refine blk_drew ?_ | refine blk_alloc ?_ _)); refine blk_put (cs := #[.int .u8 0, .int .u16 0, .bool false, .bool false, .int .i64 0, .int .u8 0, .int .u8 0, .int .u32 0, .int .u32 0, .slice none 0 0, .slice none 0 0]) ?_ 5 _ rfl; (with_reducible repeat (first | refine blk_drewN ?_ _ | refine blk_drew ?_ | refine blk_alloc ?_ _)); refine blk_put (cs := #[.int .u8 0, .int .u16 0, .bool false, .bool false, .int .i64 0, .int .u8 0, .int .u8 0, .int .u32 0, .int .u32 0, .slice none 0 0, .slice none 0 0]) ?_ 4 _ rfl; (with_reducible repeat (first | refine blk_drewN ?_ _ | refine blk_drew ?_ | refine blk_alloc ?_ _)); refine blk_put (cs := #[.int .u8 0, .int .u16 0, .bool false, .bool false, .int .i64 0, .int .u8 0, .int .u8 0, .int .u32 0, .int .u32 0, .slice none 0 0, .slice none 0 0]) ?_ 3 _ rfl; (with_reducible repeat (first | refine blk_drewN ?_ _ | refine blk_drew ?_ | refine blk_alloc ?_ _)); refine blk_put (cs := #[.int .u8 0, .int .u16 0, .bool false, .bool false, .int .i64 0, .int .u8 0, .int .u8 0, .int .u32 0, .int .u32 0, .slice none 0 0, .slice none 0 0]) ?_ 2 _ rfl; (with_reducible repeat (first | refine blk_drewN ?_ _ | refine blk_drew ?_ | refine blk_alloc ?_ _)); refine blk_put (cs := #[.int .u8 0, .int .u16 0, .bool false, .bool false, .int .i64 0, .int .u8 0, .int .u8 0, .int .u32 0, .int .u32 0, .slice none 0 0, .slice none 0 0]) ?_ 1 _ rfl; (with_reducible repeat (first | refine blk_drewN ?_ _ | refine blk_drew ?_ | refine blk_alloc ?_ _)); refine blk_put (cs := #[.int .u8 0, .int .u16 0, .bool false, .bool false, .int .i64 0, .int .u8 0, .int .u8 0, .int .u32 0, .int .u32 0, .slice none 0 0, .slice none 0 0]) ?_ 0 _ rfl; (with_reducible repeat (first | refine blk_drewN ?_ _ | refine blk_drew ?_ | refine blk_alloc ?_ _)); exact BK211.out))⟩; have n4_ : Aside0 (Below w.heap.size w w26) := ⟨(by rw [hw]; exact (by repeat (first | (with_reducible first | exact HB.out | apply below_alloc | apply pw_below_drewN | apply below_drew1 | refine below_set ?_ GE210.out | refine below_set ?_ GE211.out) | exact HB.out)))⟩; clear hw; clear HO_4; clear HO_211003; clear BK210; clear BK211; clear HB; have HO_4 := n0_; have HO_211003 := n1_; have BK210 := n2_; have BK211 := n3_; have HB := n4_; clear n0_ n1_ n2_ n3_ n4_))
        refine bodyPost_ret (results_ct rfl _ _ gb211 37 #[.int .u8 0, .int .u16 0, .bool false, .bool false, .int .i64 0, .int .u8 0, .int .u8 0, .int .u32 0, .int .u32 0, .slice none 0 0, .slice none 0 0] (0, 0) _ rfl (by (with_reducible repeat (first | refine blk_drewN ?_ _ | refine blk_drew ?_ | refine blk_alloc ?_ _)); exact BK211.out) Try.underlying37 rfl (by kernel_rfl)) rfl ?_
        exact ⟨_, _, by first | rfl | (simp [errW_none, errW_some] <;> rfl) | (simp [*, errW_none, errW_some] <;> rfl), Kd.V_nil _ _ _ _ _, Kd.V_nil _ _ _ _ _, by repeat (first | (with_reducible first | exact HB.out | apply below_alloc | apply pw_below_drewN | apply below_drew1 | refine below_set ?_ GE210.out | refine below_set ?_ GE211.out) | exact HB.out)⟩
       ·
        replace c23 := Bool.eq_false_iff.mpr c23
        subst c23
        have H1 : (if 0 < (l0_3.length : Int) then (if (l0_3.length : Int) < (wrap64 ((wrap64 (4 * (wrap64 ((wrap64 (rd l0_3 0)) - 64)))) + 8)) then (some (0, 0, false, false, 0, 0, 0, 0, 0, ([] : List Int), ([] : List Int), 2)) else (if 1 < (l0_3.length : Int) then ((towroperef07_number.f kj19 l0_3 4 2).bind fun t216 => (if 8 < (l0_3.length : Int) then (if 9 < (l0_3.length : Int) then (if 6 < (l0_3.length : Int) then ((towroperef07_number.f kj19 l0_3 6 2).bind fun t222 => ((towroperef07_number.f kj19 l0_3 12 4).bind fun t223 => ((towroperef07_number.f kj19 l0_3 16 4).bind fun t224 => (if 20 ≤ (wrap64 (4 * (wrap64 ((wrap64 (rd l0_3 0)) - 64)))) then (if (wrap64 (4 * (wrap64 ((wrap64 (rd l0_3 0)) - 64)))) ≤ (l0_3.length : Int) then (if 0 ≤ (wrap64 (4 * (wrap64 ((wrap64 (rd l0_3 0)) - 64)))) then (if (wrap64 (4 * (wrap64 ((wrap64 (rd l0_3 0)) - 64)))) ≤ (wrap64 ((wrap64 (4 * (wrap64 ((wrap64 (rd l0_3 0)) - 64)))) + 8)) then (if (wrap64 ((wrap64 (4 * (wrap64 ((wrap64 (rd l0_3 0)) - 64)))) + 8)) ≤ (l0_3.length : Int) then (some (rd l0_3 1, IntKind.u16.wrap (t216), ((((Int.tdiv (rd l0_3 6) 64) % 256) % 2) == 1), ((((Int.tdiv (rd l0_3 6) 32) % 256) % 2) == 1), Int.tmod t222 8192, rd l0_3 8, rd l0_3 9, (t223) % 4294967296, (t224) % 4294967296, ((l0_3.take ((wrap64 (4 * (wrap64 ((wrap64 (rd l0_3 0)) - 64)))) : Int).toNat).drop 20), ((l0_3.take ((wrap64 ((wrap64 (4 * (wrap64 ((wrap64 (rd l0_3 0)) - 64)))) + 8)) : Int).toNat).drop ((wrap64 (4 * (wrap64 ((wrap64 (rd l0_3 0)) - 64)))) : Int).toNat), 0)) else (none)) else (none)) else (none)) else (none)) else (none))))) else (none)) else (none)) else (none))) else (none))) else (none)) = some (r1, r2, r3, r4, r5, r6, r7, r8, r9, r10, r11, r12) := by rw [if_neg (show ¬ (false = true) by decide)] at H; exact H
        clear H
        have H := H1
        clear H1
        by_cases c27 : 0 < (l0_3.length : Int)
        ·
         rw [if_pos c27] at H
         have c27b0 : decide (0 < (l0_3.length : Int)) = true := decide_eq_true c27
         have c27b1 : decide (0 < l0_3.length) = true := decide_eq_true (by omega)
         clear c27
         by_cases c28 : (l0_3.length : Int) < (wrap64 ((wrap64 (4 * (wrap64 ((wrap64 (rd l0_3 0)) - 64)))) + 8))
         ·
          rw [if_pos c28] at H
          have c28b0 : decide ((l0_3.length : Int) < (wrap64 ((wrap64 (4 * (wrap64 ((wrap64 (rd l0_3 0)) - 64)))) + 8))) = true := decide_eq_true c28
          clear c28
          simp only [Option.some.injEq, Prod.mk.injEq] at H
          obtain ⟨rfl, rfl, rfl, rfl, rfl, rfl, rfl, rfl, rfl, rfl, rfl, rfl⟩ := H
          have p214 : 0 ≤ (0 : Int) := (by omega)
          have q214 : 0 < (l0_3.length : Int) := of_decide_eq_true (by first | (with_reducible assumption) | assumption)
          obtain ⟨ad214, e214, hx214_0⟩ := Kd.at_int (Kd.V_reads' HO_4.out).2.2 0 p214 q214
          cases e214
          have qi214 : (0 < l0_3.length) = True := eq_true (by omega)
          (try rw [show ((0 : Int)).toNat = 0 from rfl] at hx214_0)
          (try rw [Addr.add_zero'] at hx214_0)
          replace p214 := eq_true p214
          replace q214 := eq_true q214
          have hnb29 := NB211_210.out
          have hnc29 := NB210_211.out
          have hcz30 := blk_cell BK211.out
          have hfz30 := blk_frozen BK211.out
          go_wp2_with (first | ((with_reducible refine gate_store (t := 37) (p := 2) rfl ?_); refine store_event (t := 37) (p := 2) (v := ?vo_w31) (w1 := (((((((((((wc.setCell ⟨gb211, 0, none⟩ (.int .u8 0)).setCell ⟨gb211, 1, none⟩ (.int .u16 0)).setCell ⟨gb211, 2, none⟩ (.bool false)).setCell ⟨gb211, 3, none⟩ (.bool false)).setCell ⟨gb211, 4, none⟩ (.int .i64 0)).setCell ⟨gb211, 5, none⟩ (.int .u8 0)).setCell ⟨gb211, 6, none⟩ (.int .u8 0)).setCell ⟨gb211, 7, none⟩ (.int .u32 0)).setCell ⟨gb211, 8, none⟩ (.int .u32 0)).setCell ⟨gb211, 9, none⟩ (.slice none 0 0)).setCell ⟨gb211, 10, none⟩ (.slice none 0 0))) ?hg ?ho ?hn ?hr ?_; (case ho => rfl); (case hg => rfl); (case hn => rfl); (case hr => first | (go_simp; done) | (go_simp; rfl)); intro w31 hw; have n0_ : Aside0 (Kd.V (Kd.int .u8) 5 w31 w.heap.size (fun k_ => (P0_3_ k_ ∨ w.heap.size ≤ k_) ∧ k_ ≠ gb210 ∧ k_ ≠ gb211) (.slice (some ad214) l0_3.length c0_3) l0_3) := ⟨(by rw [hw]; exact (by (with_reducible repeat (first | apply Kd.V_alloc | apply Kd.V_drewN | apply Kd.V_drew)); exact Kd.V_mono (Kd.V_far (Kd.V_far (Kd.V_far (Kd.V_far (Kd.V_far (Kd.V_far (Kd.V_far (Kd.V_far (Kd.V_far (Kd.V_far (Kd.V_far (Kd.V_mono HO_4.out (fun k_ hk => (⟨hk, hk.2.2⟩ : _ ∧ k_ ≠ gb211))) (fun _ hk => hk.2) _) (fun _ hk => hk.2) _) (fun _ hk => hk.2) _) (fun _ hk => hk.2) _) (fun _ hk => hk.2) _) (fun _ hk => hk.2) _) (fun _ hk => hk.2) _) (fun _ hk => hk.2) _) (fun _ hk => hk.2) _) (fun _ hk => hk.2) _) (fun _ hk => hk.2) _) (fun _ hk => ⟨hk.1.1, ⟨hk.1.2.1, hk.1.2.2⟩⟩)))⟩; have n1_ : Aside0 (Kd.V (Kd.int .u8) 5 w31 w.heap.size (fun k_ => (P0_3_ k_ ∨ w.heap.size ≤ k_) ∧ k_ ≠ gb210 ∧ k_ ≠ gb211) (.slice (some ad214) l0_3.length c0_3) l0_3) := ⟨(by rw [hw]; exact (by (with_reducible repeat (first | apply Kd.V_alloc | apply Kd.V_drewN | apply Kd.V_drew)); exact Kd.V_mono (Kd.V_far (Kd.V_far (Kd.V_far (Kd.V_far (Kd.V_far (Kd.V_far (Kd.V_far (Kd.V_far (Kd.V_far (Kd.V_far (Kd.V_far (Kd.V_mono HO_211003.out (fun k_ hk => (⟨hk, hk.2.2⟩ : _ ∧ k_ ≠ gb211))) (fun _ hk => hk.2) _) (fun _ hk => hk.2) _) (fun _ hk => hk.2) _) (fun _ hk => hk.2) _) (fun _ hk => hk.2) _) (fun _ hk => hk.2) _) (fun _ hk => hk.2) _) (fun _ hk => hk.2) _) (fun _ hk => hk.2) _) (fun _ hk => hk.2) _) (fun _ hk => hk.2) _) (fun _ hk => ⟨hk.1.1, ⟨hk.1.2.1, hk.1.2.2⟩⟩)))⟩; have n2_ : Aside0 (w31.heap[gb210]? = some (.cells #[.int .u8 a0_0, .int .u8 a0_1, .int .u32 a0_2, .slice (some ad214) l0_3.length c0_3] 25 (0, 0))) := ⟨(by rw [hw]; exact (by (with_reducible repeat (first | refine blk_drewN ?_ _ | refine blk_drew ?_ | refine blk_alloc ?_ _)); refine blk_far ?_ NB210_211.out _; (with_reducible repeat (first | refine blk_drewN ?_ _ | refine blk_drew ?_ | refine blk_alloc ?_ _)); refine blk_far ?_ NB210_211.out _; (with_reducible repeat (first | refine blk_drewN ?_ _ | refine blk_drew ?_ | refine blk_alloc ?_ _)); refine blk_far ?_ NB210_211.out _; (with_reducible repeat (first | refine blk_drewN ?_ _ | refine blk_drew ?_ | refine blk_alloc ?_ _)); refine blk_far ?_ NB210_211.out _; (with_reducible repeat (first | refine blk_drewN ?_ _ | refine blk_drew ?_ | refine blk_alloc ?_ _)); refine blk_far ?_ NB210_211.out _; (with_reducible repeat (first | refine blk_drewN ?_ _ | refine blk_drew ?_ | refine blk_alloc ?_ _)); refine blk_far ?_ NB210_211.out _; (with_reducible repeat (first | refine blk_drewN ?_ _ | refine blk_drew ?_ | refine blk_alloc ?_ _)); refine blk_far ?_ NB210_211.out _; (with_reducible repeat (first | refine blk_drewN ?_ _ | refine blk_drew ?_ | refine blk_alloc ?_ _)); refine blk_far ?_ NB210_211.out _; (with_reducible repeat (first | refine blk_drewN ?_ _ | refine blk_drew ?_ | refine blk_alloc ?_ _)); refine blk_far ?_ NB210_211.out _; (with_reducible repeat (first | refine blk_drewN ?_ _ | refine blk_drew ?_ | refine blk_alloc ?_ _)); refine blk_far ?_ NB210_211.out _; (with_reducible repeat (first | refine blk_drewN ?_ _ | refine blk_drew ?_ | refine blk_alloc ?_ _)); refine blk_far ?_ NB210_211.out _; (with_reducible repeat (first | refine blk_drewN ?_ _ | refine blk_drew ?_ | refine blk_alloc ?_ _)); exact BK210.out))⟩; have n3_ : Aside0 (w31.heap[gb211]? = some (.cells #[.int .u8 0, .int .u16 0, .bool false, .bool false, .int .i64 0, .int .u8 0, .int .u8 0, .int .u32 0, .int .u32 0, .slice none 0 0, .slice none 0 0] 37 (0, 0))) := ⟨(by rw [hw]; exact (by (with_reducible repeat (first | refine blk_drewN ?_ _ | refine blk_drew ?_ | refine blk_alloc ?_ _)); refine blk_put (cs := #[.int .u8 0, .int .u16 0, .bool false, .bool false, .int .i64 0, .int .u8 0, .int .u8 0, .int .u32 0, .int .u32 0, .slice none 0 0, .slice none 0 0]) ?_ 10 _ rfl; (with_reducible repeat (first | refine blk_drewN ?_ _ | refine blk_drew ?_ | refine blk_alloc ?_ _)); refine blk_put (cs := #[.int .u8 0, .int .u16 0, .bool false, .bool false, .int .i64 0, .int .u8 0, .int .u8 0, .int .u32 0, .int .u32 0, .slice none 0 0, .slice none 0 0]) ?_ 9 _ rfl; (with_reducible repeat (first | refine blk_drewN ?_ _ | refine blk_drew ?_ | refine blk_alloc ?_ _)); refine blk_put (cs := #[.int .u8 0, .int .u16 0, .bool false, .bool false, .int .i64 0, .int .u8 0, .int .u8 0, .int .u32 0, .int .u32 0, .slice none 0 0, .slice none 0 0]) ?_ 8 _ rfl; (with_reducible repeat (first | refine blk_drewN ?_ _ | refine blk_drew ?_ | refine blk_alloc ?_ _)); refine blk_put (cs := #[.int .u8 0, .int .u16 0, .bool false, .bool false, .int .i64 0, .int .u8 0, .int .u8 0, .int .u32 0, .int .u32 0, .slice none 0 0, .slice none 0 0]) ?_ 7 _ rfl; (with_reducible repeat (first | refine blk_drewN ?_ _ | refine blk_drew ?_ | refine blk_alloc ?_ _)); refine blk_put (cs := #[.int .u8 0, .int .u16 0, .bool false, .bool false, .int .i64 0, .int .u8 0, .int .u8 0, .int .u32 0, .int .u32 0, .slice none 0 0, .slice none 0 0]) ?_ 6 _ rfl; (with_reducible repeat (first | refine blk_drewN ?_ _ | refine blk_drew ?_ | refine blk_alloc ?_ _)); refine blk_put (cs := #[.int .u8 0, .int .u16 0, .bool false, .bool false, .int .i64 0, .int .u8 0, .int .u8 0, .int .u32 0, .int .u32 0, .slice none 0 0, .slice none 0 0]) ?_ 5 _ rfl; (with_reducible repeat (first | refine blk_drewN ?_ _ | refine blk_drew ?_ | refine blk_alloc ?_ _)); refine blk_put (cs := #[.int .u8 0, .int .u16 0, .bool false, .bool false, .int .i64 0, .int .u8 0, .int .u8 0, .int .u32 0, .int .u32 0, .slice none 0 0, .slice none 0 0]) ?_ 4 _ rfl; (with_reducible repeat (first | refine blk_drewN ?_ _ | refine blk_drew ?_ | refine blk_alloc ?_ _)); refine blk_put (cs := #[.int .u8 0, .int .u16 0, .bool false, .bool false, .int .i64 0, .int .u8 0, .int .u8 0, .int .u32 0, .int .u32 0, .slice none 0 0, .slice none 0 0]) ?_ 3 _ rfl; (with_reducible repeat (first | refine blk_drewN ?_ _ | refine blk_drew ?_ | refine blk_alloc ?_ _)); refine blk_put (cs := #[.int .u8 0, .int .u16 0, .bool false, .bool false, .int .i64 0, .int .u8 0, .int .u8 0, .int .u32 0, .int .u32 0, .slice none 0 0, .slice none 0 0]) ?_ 2 _ rfl; (with_reducible repeat (first | refine blk_drewN ?_ _ | refine blk_drew ?_ | refine blk_alloc ?_ _)); refine blk_put (cs := #[.int .u8 0, .int .u16 0, .bool false, .bool false, .int .i64 0, .int .u8 0, .int .u8 0, .int .u32 0, .int .u32 0, .slice none 0 0, .slice none 0 0]) ?_ 1 _ rfl; (with_reducible repeat (first | refine blk_drewN ?_ _ | refine blk_drew ?_ | refine blk_alloc ?_ _)); refine blk_put (cs := #[.int .u8 0, .int .u16 0, .bool false, .bool false, .int .i64 0, .int .u8 0, .int .u8 0, .int .u32 0, .int .u32 0, .slice none 0 0, .slice none 0 0]) ?_ 0 _ rfl; (with_reducible repeat (first | refine blk_drewN ?_ _ | refine blk_drew ?_ | refine blk_alloc ?_ _)); exact BK211.out))⟩; have n4_ : Aside0 (Below w.heap.size w w31) := ⟨(by rw [hw]; exact (by repeat (first | (with_reducible first | exact HB.out | apply below_alloc | apply pw_below_drewN | apply below_drew1 | refine below_set ?_ GE210.out | refine below_set ?_ GE211.out) | exact HB.out)))⟩; clear hw; clear HO_4; clear HO_211003; clear BK210; clear BK211; clear HB; have HO_4 := n0_; have HO_211003 := n1_; have BK210 := n2_; have BK211 := n3_; have HB := n4_; clear n0_ n1_ n2_ n3_ n4_))
          refine bodyPost_ret (results_ct rfl _ _ gb211 37 #[.int .u8 0, .int .u16 0, .bool false, .bool false, .int .i64 0, .int .u8 0, .int .u8 0, .int .u32 0, .int .u32 0, .slice none 0 0, .slice none 0 0] (0, 0) _ rfl (by (with_reducible repeat (first | refine blk_drewN ?_ _ | refine blk_drew ?_ | refine blk_alloc ?_ _)); exact BK211.out) Try.underlying37 rfl (by kernel_rfl)) rfl ?_
          exact ⟨_, _, by first | rfl | (simp [errW_none, errW_some] <;> rfl) | (simp [*, errW_none, errW_some] <;> rfl), Kd.V_nil _ _ _ _ _, Kd.V_nil _ _ _ _ _, by repeat (first | (with_reducible first | exact HB.out | apply below_alloc | apply pw_below_drewN | apply below_drew1 | refine below_set ?_ GE210.out | refine below_set ?_ GE211.out) | exact HB.out)⟩
         ·
          rw [if_neg c28] at H
          have c28b0 : decide ((l0_3.length : Int) < (wrap64 ((wrap64 (4 * (wrap64 ((wrap64 (rd l0_3 0)) - 64)))) + 8))) = false := decide_eq_false c28
          clear c28
          by_cases c32 : 1 < (l0_3.length : Int)
          ·
           rw [if_pos c32] at H
           have c32b0 : decide (1 < (l0_3.length : Int)) = true := decide_eq_true c32
           have c32b1 : decide (1 < l0_3.length) = true := decide_eq_true (by omega)
           clear c32
           replace H := Option.bind_eq_some_iff.mp H
           obtain ⟨t216, A330, H⟩ := H
           replace H : (if 8 < (l0_3.length : Int) then (if 9 < (l0_3.length : Int) then (if 6 < (l0_3.length : Int) then ((towroperef07_number.f kj19 l0_3 6 2).bind fun t222 => ((towroperef07_number.f kj19 l0_3 12 4).bind fun t223 => ((towroperef07_number.f kj19 l0_3 16 4).bind fun t224 => (if 20 ≤ (wrap64 (4 * (wrap64 ((wrap64 (rd l0_3 0)) - 64)))) then (if (wrap64 (4 * (wrap64 ((wrap64 (rd l0_3 0)) - 64)))) ≤ (l0_3.length : Int) then (if 0 ≤ (wrap64 (4 * (wrap64 ((wrap64 (rd l0_3 0)) - 64)))) then (if (wrap64 (4 * (wrap64 ((wrap64 (rd l0_3 0)) - 64)))) ≤ (wrap64 ((wrap64 (4 * (wrap64 ((wrap64 (rd l0_3 0)) - 64)))) + 8)) then (if (wrap64 ((wrap64 (4 * (wrap64 ((wrap64 (rd l0_3 0)) - 64)))) + 8)) ≤ (l0_3.length : Int) then (some (rd l0_3 1, IntKind.u16.wrap (t216), ((((Int.tdiv (rd l0_3 6) 64) % 256) % 2) == 1), ((((Int.tdiv (rd l0_3 6) 32) % 256) % 2) == 1), Int.tmod t222 8192, rd l0_3 8, rd l0_3 9, (t223) % 4294967296, (t224) % 4294967296, ((l0_3.take ((wrap64 (4 * (wrap64 ((wrap64 (rd l0_3 0)) - 64)))) : Int).toNat).drop 20), ((l0_3.take ((wrap64 ((wrap64 (4 * (wrap64 ((wrap64 (rd l0_3 0)) - 64)))) + 8)) : Int).toNat).drop ((wrap64 (4 * (wrap64 ((wrap64 (rd l0_3 0)) - 64)))) : Int).toNat), 0)) else (none)) else (none)) else (none)) else (none)) else (none))))) else (none)) else (none)) else (none)) = some (r1, r2, r3, r4, r5, r6, r7, r8, r9, r10, r11, r12) := H
           have A33 := Aside0.mk A330
           clear A330
           by_cases c34 : 8 < (l0_3.length : Int)
           ·
            rw [if_pos c34] at H
            have c34b0 : decide (8 < (l0_3.length : Int)) = true := decide_eq_true c34
            have c34b1 : decide (8 < l0_3.length) = true := decide_eq_true (by omega)
            clear c34
            by_cases c35 : 9 < (l0_3.length : Int)
            ·
             rw [if_pos c35] at H
             have c35b0 : decide (9 < (l0_3.length : Int)) = true := decide_eq_true c35
             have c35b1 : decide (9 < l0_3.length) = true := decide_eq_true (by omega)
             clear c35
             by_cases c36 : 6 < (l0_3.length : Int)
             ·
              rw [if_pos c36] at H
              have c36b0 : decide (6 < (l0_3.length : Int)) = true := decide_eq_true c36
              have c36b1 : decide (6 < l0_3.length) = true := decide_eq_true (by omega)
              clear c36
              replace H := Option.bind_eq_some_iff.mp H
              obtain ⟨t222, A370, H⟩ := H
              replace H : ((towroperef07_number.f kj19 l0_3 12 4).bind fun t223 => ((towroperef07_number.f kj19 l0_3 16 4).bind fun t224 => (if 20 ≤ (wrap64 (4 * (wrap64 ((wrap64 (rd l0_3 0)) - 64)))) then (if (wrap64 (4 * (wrap64 ((wrap64 (rd l0_3 0)) - 64)))) ≤ (l0_3.length : Int) then (if 0 ≤ (wrap64 (4 * (wrap64 ((wrap64 (rd l0_3 0)) - 64)))) then (if (wrap64 (4 * (wrap64 ((wrap64 (rd l0_3 0)) - 64)))) ≤ (wrap64 ((wrap64 (4 * (wrap64 ((wrap64 (rd l0_3 0)) - 64)))) + 8)) then (if (wrap64 ((wrap64 (4 * (wrap64 ((wrap64 (rd l0_3 0)) - 64)))) + 8)) ≤ (l0_3.length : Int) then (some (rd l0_3 1, IntKind.u16.wrap (t216), ((((Int.tdiv (rd l0_3 6) 64) % 256) % 2) == 1), ((((Int.tdiv (rd l0_3 6) 32) % 256) % 2) == 1), Int.tmod t222 8192, rd l0_3 8, rd l0_3 9, (t223) % 4294967296, (t224) % 4294967296, ((l0_3.take ((wrap64 (4 * (wrap64 ((wrap64 (rd l0_3 0)) - 64)))) : Int).toNat).drop 20), ((l0_3.take ((wrap64 ((wrap64 (4 * (wrap64 ((wrap64 (rd l0_3 0)) - 64)))) + 8)) : Int).toNat).drop ((wrap64 (4 * (wrap64 ((wrap64 (rd l0_3 0)) - 64)))) : Int).toNat), 0)) else (none)) else (none)) else (none)) else (none)) else (none)))) = some (r1, r2, r3, r4, r5, r6, r7, r8, r9, r10, r11, r12) := H
              have A37 := Aside0.mk A370
              clear A370
              replace H := Option.bind_eq_some_iff.mp H
              obtain ⟨t223, A380, H⟩ := H
              replace H : ((towroperef07_number.f kj19 l0_3 16 4).bind fun t224 => (if 20 ≤ (wrap64 (4 * (wrap64 ((wrap64 (rd l0_3 0)) - 64)))) then (if (wrap64 (4 * (wrap64 ((wrap64 (rd l0_3 0)) - 64)))) ≤ (l0_3.length : Int) then (if 0 ≤ (wrap64 (4 * (wrap64 ((wrap64 (rd l0_3 0)) - 64)))) then (if (wrap64 (4 * (wrap64 ((wrap64 (rd l0_3 0)) - 64)))) ≤ (wrap64 ((wrap64 (4 * (wrap64 ((wrap64 (rd l0_3 0)) - 64)))) + 8)) then (if (wrap64 ((wrap64 (4 * (wrap64 ((wrap64 (rd l0_3 0)) - 64)))) + 8)) ≤ (l0_3.length : Int) then (some (rd l0_3 1, IntKind.u16.wrap (t216), ((((Int.tdiv (rd l0_3 6) 64) % 256) % 2) == 1), ((((Int.tdiv (rd l0_3 6) 32) % 256) % 2) == 1), Int.tmod t222 8192, rd l0_3 8, rd l0_3 9, (t223) % 4294967296, (t224) % 4294967296, ((l0_3.take ((wrap64 (4 * (wrap64 ((wrap64 (rd l0_3 0)) - 64)))) : Int).toNat).drop 20), ((l0_3.take ((wrap64 ((wrap64 (4 * (wrap64 ((wrap64 (rd l0_3 0)) - 64)))) + 8)) : Int).toNat).drop ((wrap64 (4 * (wrap64 ((wrap64 (rd l0_3 0)) - 64)))) : Int).toNat), 0)) else (none)) else (none)) else (none)) else (none)) else (none))) = some (r1, r2, r3, r4, r5, r6, r7, r8, r9, r10, r11, r12) := H
              have A38 := Aside0.mk A380
              clear A380
              replace H := Option.bind_eq_some_iff.mp H
              obtain ⟨t224, A390, H⟩ := H
              replace H : (if 20 ≤ (wrap64 (4 * (wrap64 ((wrap64 (rd l0_3 0)) - 64)))) then (if (wrap64 (4 * (wrap64 ((wrap64 (rd l0_3 0)) - 64)))) ≤ (l0_3.length : Int) then (if 0 ≤ (wrap64 (4 * (wrap64 ((wrap64 (rd l0_3 0)) - 64)))) then (if (wrap64 (4 * (wrap64 ((wrap64 (rd l0_3 0)) - 64)))) ≤ (wrap64 ((wrap64 (4 * (wrap64 ((wrap64 (rd l0_3 0)) - 64)))) + 8)) then (if (wrap64 ((wrap64 (4 * (wrap64 ((wrap64 (rd l0_3 0)) - 64)))) + 8)) ≤ (l0_3.length : Int) then (some (rd l0_3 1, IntKind.u16.wrap (t216), ((((Int.tdiv (rd l0_3 6) 64) % 256) % 2) == 1), ((((Int.tdiv (rd l0_3 6) 32) % 256) % 2) == 1), Int.tmod t222 8192, rd l0_3 8, rd l0_3 9, (t223) % 4294967296, (t224) % 4294967296, ((l0_3.take ((wrap64 (4 * (wrap64 ((wrap64 (rd l0_3 0)) - 64)))) : Int).toNat).drop 20), ((l0_3.take ((wrap64 ((wrap64 (4 * (wrap64 ((wrap64 (rd l0_3 0)) - 64)))) + 8)) : Int).toNat).drop ((wrap64 (4 * (wrap64 ((wrap64 (rd l0_3 0)) - 64)))) : Int).toNat), 0)) else (none)) else (none)) else (none)) else (none)) else (none)) = some (r1, r2, r3, r4, r5, r6, r7, r8, r9, r10, r11, r12) := H
              have A39 := Aside0.mk A390
              clear A390
              by_cases c40 : 20 ≤ (wrap64 (4 * (wrap64 ((wrap64 (rd l0_3 0)) - 64))))
              ·
               rw [if_pos c40] at H
               have c40b0 := eq_true c40
               have c40b1 : decide (20 ≤ (wrap64 (4 * (wrap64 ((wrap64 (rd l0_3 0)) - 64))))) = true := decide_eq_true c40
               clear c40
               by_cases c41 : (wrap64 (4 * (wrap64 ((wrap64 (rd l0_3 0)) - 64)))) ≤ (l0_3.length : Int)
               ·
                rw [if_pos c41] at H
                have c41b0 := eq_true c41
                have c41b1 : decide ((wrap64 (4 * (wrap64 ((wrap64 (rd l0_3 0)) - 64)))) ≤ (l0_3.length : Int)) = true := decide_eq_true c41
                clear c41
                obtain ⟨y225, hy225⟩ : ∃ y_ : List Int, y_ = ((l0_3.take ((wrap64 (4 * (wrap64 ((wrap64 (rd l0_3 0)) - 64)))) : Int).toNat).drop 20) := ⟨_, rfl⟩
                replace H : (if 0 ≤ (wrap64 (4 * (wrap64 ((wrap64 (rd l0_3 0)) - 64)))) then (if (wrap64 (4 * (wrap64 ((wrap64 (rd l0_3 0)) - 64)))) ≤ (wrap64 ((wrap64 (4 * (wrap64 ((wrap64 (rd l0_3 0)) - 64)))) + 8)) then (if (wrap64 ((wrap64 (4 * (wrap64 ((wrap64 (rd l0_3 0)) - 64)))) + 8)) ≤ (l0_3.length : Int) then (some (rd l0_3 1, IntKind.u16.wrap (t216), ((((Int.tdiv (rd l0_3 6) 64) % 256) % 2) == 1), ((((Int.tdiv (rd l0_3 6) 32) % 256) % 2) == 1), Int.tmod t222 8192, rd l0_3 8, rd l0_3 9, (t223) % 4294967296, (t224) % 4294967296, y225, ((l0_3.take ((wrap64 ((wrap64 (4 * (wrap64 ((wrap64 (rd l0_3 0)) - 64)))) + 8)) : Int).toNat).drop ((wrap64 (4 * (wrap64 ((wrap64 (rd l0_3 0)) - 64)))) : Int).toNat), 0)) else (none)) else (none)) else (none)) = some (r1, r2, r3, r4, r5, r6, r7, r8, r9, r10, r11, r12) := by first | (rw [hy225]; with_reducible exact H) | (have H2_ := (Option.bind_some _ _).symm.trans H; rw [hy225]; with_reducible exact H2_) | (have H2_ := (Option.bind_some _ _).symm.trans H; with_reducible exact H2_) | with_reducible exact H | (rw [hy225]; exact H) | exact H
                have Ny225 := Aside0.mk hy225
                clear hy225
                obtain ⟨ji42, hji42⟩ : ∃ j_ : Int, (wrap64 (4 * (wrap64 ((wrap64 (rd l0_3 0)) - 64)))) = j_ := ⟨_, rfl⟩
                replace H : (if 0 ≤ (ji42) then (if (ji42) ≤ (wrap64 ((ji42) + 8)) then (if (wrap64 ((ji42) + 8)) ≤ (l0_3.length : Int) then (some (rd l0_3 1, IntKind.u16.wrap (t216), ((((Int.tdiv (rd l0_3 6) 64) % 256) % 2) == 1), ((((Int.tdiv (rd l0_3 6) 32) % 256) % 2) == 1), Int.tmod t222 8192, rd l0_3 8, rd l0_3 9, (t223) % 4294967296, (t224) % 4294967296, y225, ((l0_3.take ((wrap64 ((ji42) + 8)) : Int).toNat).drop ((ji42) : Int).toNat), 0)) else (none)) else (none)) else (none)) = some (r1, r2, r3, r4, r5, r6, r7, r8, r9, r10, r11, r12) := by first | (rw [hji42] at H; exact H) | (simp only [hji42] at H ⊢; exact H)
                (try rw [hji42] at c28b0)
                (try rw [hji42] at c40b0)
                (try rw [hji42] at c40b1)
                (try rw [hji42] at c41b0)
                (try rw [hji42] at c41b1)
                (try rw [hji42] at A33)
                (try rw [hji42] at A37)
                (try rw [hji42] at A38)
                (try rw [hji42] at A39)
                (try rw [hji42] at Ny225)
                have hji42w : (IntKind.i64.wrap (4 * (wrap64 ((wrap64 (rd l0_3 0)) - 64)))) = ji42 := (i64_w _).trans hji42
                by_cases c43 : 0 ≤ (ji42)
                ·
                 rw [if_pos c43] at H
                 have c43b0 := eq_true c43
                 have c43b1 : decide (0 ≤ (ji42)) = true := decide_eq_true c43
                 clear c43
                 by_cases c44 : (ji42) ≤ (wrap64 ((ji42) + 8))
                 ·
                  rw [if_pos c44] at H
                  have c44b0 := eq_true c44
                  have c44b1 : decide ((ji42) ≤ (wrap64 ((ji42) + 8))) = true := decide_eq_true c44
                  by_cases c45 : (wrap64 ((ji42) + 8)) ≤ (l0_3.length : Int)
                  ·
                   rw [if_pos c45] at H
                   have c45b0 := eq_true c45
                   have c45b1 : decide ((wrap64 ((ji42) + 8)) ≤ (l0_3.length : Int)) = true := decide_eq_true c45
                   obtain ⟨y230, hy230⟩ : ∃ y_ : List Int, y_ = ((l0_3.take ((wrap64 ((ji42) + 8)) : Int).toNat).drop ((ji42) : Int).toNat) := ⟨_, rfl⟩
                   replace H : (some (rd l0_3 1, IntKind.u16.wrap (t216), ((((Int.tdiv (rd l0_3 6) 64) % 256) % 2) == 1), ((((Int.tdiv (rd l0_3 6) 32) % 256) % 2) == 1), Int.tmod t222 8192, rd l0_3 8, rd l0_3 9, (t223) % 4294967296, (t224) % 4294967296, y225, y230, 0)) = some (r1, r2, r3, r4, r5, r6, r7, r8, r9, r10, r11, r12) := by first | (rw [hy230]; with_reducible exact H) | (have H2_ := (Option.bind_some _ _).symm.trans H; rw [hy230]; with_reducible exact H2_) | (have H2_ := (Option.bind_some _ _).symm.trans H; with_reducible exact H2_) | with_reducible exact H | (rw [hy230]; exact H) | exact H
                   have Ny230 := Aside0.mk hy230
                   clear hy230
                   simp only [Option.some.injEq, Prod.mk.injEq] at H
                   obtain ⟨rfl, rfl, rfl, rfl, rfl, rfl, rfl, rfl, rfl, rfl, rfl, rfl⟩ := H
                   have p214 : 0 ≤ (0 : Int) := (by omega)
                   have q214 : 0 < (l0_3.length : Int) := of_decide_eq_true (by first | (with_reducible assumption) | assumption)
                   obtain ⟨ad214, e214, hx214_0⟩ := Kd.at_int (Kd.V_reads' HO_4.out).2.2 0 p214 q214
                   cases e214
                   have qi214 : (0 < l0_3.length) = True := eq_true (by omega)
                   (try rw [show ((0 : Int)).toNat = 0 from rfl] at hx214_0)
                   (try rw [Addr.add_zero'] at hx214_0)
                   replace p214 := eq_true p214
                   replace q214 := eq_true q214
                   try go_wp2
                   have n0_ := Aside0.mk (Kd.V_drew HO_4.out)
                   have n1_ := Aside0.mk (Kd.V_drew HO_211003.out)
                   have n2_ := Aside0.mk (blk_drew BK210.out)
                   have n3_ := Aside0.mk (blk_drew BK211.out)
                   have n4_ := Aside0.mk (below_drew1 HB.out)
                   clear HO_4
                   clear HO_211003
                   clear BK210
                   clear BK211
                   clear HB
                   have HO_4 := n0_
                   have HO_211003 := n1_
                   have BK210 := n2_
                   have BK211 := n3_
                   have HB := n4_
                   clear n0_ n1_ n2_ n3_ n4_
                   have p215 : 0 ≤ (1 : Int) := (by omega)
                   have q215 : 1 < (l0_3.length : Int) := of_decide_eq_true (by first | (with_reducible assumption) | assumption)
                   obtain ⟨ad215, e215, hx215_0⟩ := Kd.at_int (Kd.V_reads' HO_4.out).2.2 1 p215 q215
                   obtain rfl : ad214 = ad215 := (by injection e215)
                   (try simp only [show (1 : Int).toNat = 1 from rfl, Nat.reduceMul, Nat.reduceEqDiff, Go.Addr.add, ↓reduceIte] at hx215_0)
                   have qi215 : (1 < l0_3.length) = True := eq_true (by omega)
                   (try rw [show ((1 : Int)).toNat = 1 from rfl] at hx215_0)
                   replace p215 := eq_true p215
                   replace q215 := eq_true q215
                   have p217 : 0 ≤ (8 : Int) := (by omega)
                   have q217 : 8 < (l0_3.length : Int) := of_decide_eq_true (by first | (with_reducible assumption) | assumption)
                   obtain ⟨ad217, e217, hx217_0⟩ := Kd.at_int (Kd.V_reads' HO_4.out).2.2 8 p217 q217
                   obtain rfl : ad214 = ad217 := (by injection e217)
                   (try simp only [show (8 : Int).toNat = 8 from rfl, Nat.reduceMul, Nat.reduceEqDiff, Go.Addr.add, ↓reduceIte] at hx217_0)
                   have qi217 : (8 < l0_3.length) = True := eq_true (by omega)
                   (try rw [show ((8 : Int)).toNat = 8 from rfl] at hx217_0)
                   replace p217 := eq_true p217
                   replace q217 := eq_true q217
                   have p218 : 0 ≤ (9 : Int) := (by omega)
                   have q218 : 9 < (l0_3.length : Int) := of_decide_eq_true (by first | (with_reducible assumption) | assumption)
                   obtain ⟨ad218, e218, hx218_0⟩ := Kd.at_int (Kd.V_reads' HO_4.out).2.2 9 p218 q218
                   obtain rfl : ad214 = ad218 := (by injection e218)
                   (try simp only [show (9 : Int).toNat = 9 from rfl, Nat.reduceMul, Nat.reduceEqDiff, Go.Addr.add, ↓reduceIte] at hx218_0)
                   have qi218 : (9 < l0_3.length) = True := eq_true (by omega)
                   (try rw [show ((9 : Int)).toNat = 9 from rfl] at hx218_0)
                   replace p218 := eq_true p218
                   replace q218 := eq_true q218
                   refine start_ (n := 15) (S := fun w' => w'.cell? ⟨ad214.block, ad214.off + 1, none⟩ = some (.int .u8 (rd l0_3 1)) ∧ w'.cell? ⟨ad214.block, ad214.off + 8, none⟩ = some (.int .u8 (rd l0_3 8)) ∧ w'.cell? ⟨ad214.block, ad214.off + 9, none⟩ = some (.int .u8 (rd l0_3 9))) (ds := []) (bb 15 0) (by kernel_rfl) rfl rfl ⟨hx215_0, hx217_0, hx218_0⟩ (fun hHeld => ?_); refine with_tabW towroperef07_Cause.tab11 towroperef07_Cause.bits11 (fun HT_ HW_ => ?_)
                   generalize wc.drew = w46 at HO_4 HO_211003 BK210 BK211 HB hx215_0 hx217_0 hx218_0 hHeld ⊢
                   refine pure_ (i := 0) (N := some 45) (v := ?_) (a' := ?_) (bb 15 1) rfl rfl (any_of HT_.out (by kernel_rfl)) (fun _ _ _ h => h) (Or.inl ⟨by rfl, ?_⟩) ?_ ?_
                   rotate_left
                   ·
                    intro w'
                    go_simp
                    with_reducible rfl
                   rotate_left
                   ·
                    simp only [Act.put, List.setIfInBounds_toArray, List.set_cons_zero, List.set_cons_succ, i64_w, i32_w]
                    rfl
                   refine pure_ (i := 1) (N := some 46) (v := ?_) (a' := ?_) (bb 15 3) rfl rfl (any_of HT_.out (by kernel_rfl)) (fun _ _ _ h => h) (Or.inl ⟨by rfl, ?_⟩) ?_ ?_
                   rotate_left
                   ·
                    intro w'
                    go_simp
                    with_reducible rfl
                   rotate_left
                   ·
                    simp only [Act.put, List.setIfInBounds_toArray, List.set_cons_zero, List.set_cons_succ, i64_w, i32_w]
                    rfl
                   refine pure_ (i := 3) (N := some 48) (v := ?_) (a' := ?_) (bb 15 11) rfl rfl (any_of HT_.out (by kernel_rfl)) (fun _ _ _ h => h) (Or.inl ⟨by rfl, ?_⟩) ?_ ?_
                   rotate_left
                   ·
                    intro w'
                    go_simp
                    with_reducible rfl
                   rotate_left
                   ·
                    simp only [Act.put, List.setIfInBounds_toArray, List.set_cons_zero, List.set_cons_succ, i64_w, i32_w]
                    rfl
                   refine pure_ (i := 6) (N := some 51) (v := ?_) (a' := ?_) (bb 15 75) rfl rfl (any_of HT_.out (by kernel_rfl)) (fun _ _ _ h => h) (Or.inl ⟨by rfl, ?_⟩) ?_ ?_
                   rotate_left
                   ·
                    intro w'
                    go_simp
                    with_reducible rfl
                   rotate_left
                   ·
                    simp only [Act.put, List.setIfInBounds_toArray, List.set_cons_zero, List.set_cons_succ, i64_w, i32_w]
                    rfl
                   refine pure_ (i := 7) (N := some 52) (v := ?_) (a' := ?_) (bb 15 203) rfl rfl (any_of HT_.out (by kernel_rfl)) (fun _ _ _ h => h) (Or.inl ⟨by rfl, ?_⟩) ?_ ?_
                   rotate_left
                   ·
                    intro w'
                    go_simp
                    with_reducible rfl
                   rotate_left
                   ·
                    simp only [Act.put, List.setIfInBounds_toArray, List.set_cons_zero, List.set_cons_succ, i64_w, i32_w]
                    rfl
                   refine pure_ (i := 9) (N := some 54) (v := ?_) (a' := ?_) (bb 15 715) rfl rfl (any_of HT_.out (by kernel_rfl)) (fun _ _ _ h => h) (Or.inl ⟨by rfl, ?_⟩) ?_ ?_
                   rotate_left
                   ·
                    intro w'
                    go_simp
                    with_reducible rfl
                   rotate_left
                   ·
                    simp only [Act.put, List.setIfInBounds_toArray, List.set_cons_zero, List.set_cons_succ, i64_w, i32_w]
                    rfl
                   refine pure_ (i := 10) (N := some 55) (v := ?_) (a' := ?_) (bb 15 1739) rfl rfl (any_of HT_.out (by kernel_rfl)) (fun _ _ _ h => h) (Or.inl ⟨by rfl, ?_⟩) ?_ ?_
                   rotate_left
                   ·
                    intro w'
                    go_simp
                    with_reducible rfl
                   rotate_left
                   ·
                    simp only [Act.put, List.setIfInBounds_toArray, List.set_cons_zero, List.set_cons_succ, i64_w, i32_w]
                    rfl
                   refine take_ (i := 2) (N := some 47) (v := ?_) (a' := ?_) (bb 15 1743) rfl rfl (take_ofW HT_.out HW_.out (by kernel_rfl)) (fun _ _ _ h => h) (Or.inl ⟨by rfl, ?_⟩) hHeld ?_ ?_
                   rotate_left
                   ·
                    rintro w' ⟨s0, s1, s2⟩
                    go_simp
                    with_reducible rfl
                   rotate_left
                   ·
                    simp only [Act.put, List.setIfInBounds_toArray, List.set_cons_zero, List.set_cons_succ, i64_w, i32_w]
                    rfl
                   refine take_ (i := 8) (N := some 53) (v := ?_) (a' := ?_) (bb 15 1999) rfl rfl (take_ofW HT_.out HW_.out (by kernel_rfl)) (fun _ _ _ h => h) (Or.inl ⟨by rfl, ?_⟩) hHeld ?_ ?_
                   rotate_left
                   ·
                    rintro w' ⟨s0, s1, s2⟩
                    go_simp
                    with_reducible rfl
                   rotate_left
                   ·
                    simp only [Act.put, List.setIfInBounds_toArray, List.set_cons_zero, List.set_cons_succ, i64_w, i32_w]
                    rfl
                   refine take_ (i := 11) (N := some 56) (v := ?_) (a' := ?_) (bb 15 4047) rfl rfl (take_ofW HT_.out HW_.out (by kernel_rfl)) (fun _ _ _ h => h) (Or.inl ⟨by rfl, ?_⟩) hHeld ?_ ?_
                   rotate_left
                   ·
                    rintro w' ⟨s0, s1, s2⟩
                    go_simp
                    with_reducible rfl
                   rotate_left
                   ·
                    simp only [Act.put, List.setIfInBounds_toArray, List.set_cons_zero, List.set_cons_succ, i64_w, i32_w]
                    rfl
                   refine join_ (σ := Nat) 1 (bb 15 16383) (fun s_ => [(49, .int .i64 t216), (6, .pointer (some ⟨s_, 0, none⟩)), (50, .int .u16 (IntKind.u16.wrap (t216))), (57, .agg #[.int .u8 (rd l0_3 1), .int .u16 (IntKind.u16.wrap (t216)), .bool false, .bool false, .int .i64 0, .int .u8 (rd l0_3 8), .int .u8 (rd l0_3 9), .int .u32 0, .int .u32 0, .slice none 0 0, .slice none 0 0])]) (fun s_ w' => (w'.cell? ⟨ad214.block, ad214.off + 1, none⟩ = some (.int .u8 (rd l0_3 1)) ∧ w'.cell? ⟨ad214.block, ad214.off + 8, none⟩ = some (.int .u8 (rd l0_3 8)) ∧ w'.cell? ⟨ad214.block, ad214.off + 9, none⟩ = some (.int .u8 (rd l0_3 9))) ∧ (Kd.V (Kd.int .u8) 5 w' w.heap.size (fun k_ => (P0_3_ k_ ∨ w.heap.size ≤ k_) ∧ k_ ≠ gb210 ∧ k_ ≠ gb211 ∧ k_ ≠ s_) (.slice (some ad214) l0_3.length c0_3) l0_3) ∧ (Kd.V (Kd.int .u8) 5 w' w.heap.size (fun k_ => (P0_3_ k_ ∨ w.heap.size ≤ k_) ∧ k_ ≠ gb210 ∧ k_ ≠ gb211 ∧ k_ ≠ s_) (.slice (some ad214) l0_3.length c0_3) l0_3) ∧ (w'.heap[gb210]? = some (.cells #[.int .u8 a0_0, .int .u8 a0_1, .int .u32 a0_2, .slice (some ad214) l0_3.length c0_3] 25 (0, 0))) ∧ (w'.heap[gb211]? = some (.cells #[.int .u8 0, .int .u16 0, .bool false, .bool false, .int .i64 0, .int .u8 0, .int .u8 0, .int .u32 0, .int .u32 0, .slice none 0 0, .slice none 0 0] 37 (0, 0))) ∧ (w'.heap[s_]? = some (.cells #[.int .u8 0, .int .u16 0, .bool false, .bool false, .int .i64 0, .int .u8 0, .int .u8 0, .int .u32 0, .int .u32 0, .slice none 0 0, .slice none 0 0] 37 (0, 0))) ∧ (w.heap.size ≤ s_) ∧ (w.heap.size ≤ s_) ∧ (gb210 ≠ s_) ∧ (s_ ≠ gb210) ∧ (gb211 ≠ s_) ∧ (s_ ≠ gb211) ∧ (Below w.heap.size w w')) ?_ ?_
                   rotate_left
                   ·
                    intro hCont
                    refine two_ (i := 4) (j := 13) (Ni := some 49) (Nj := some 6) (bb 15 4063) (bb 15 12239) rfl rfl rfl rfl (two_of HT_.out (by kernel_rfl)) (by decide) (by decide) (fun K hK => ?_) (fun K hK => ?_)
                    ·
                     skip
                     refine goes_ Try.func50 (by kernel_rfl) rfl #[.slice (some ad214) l0_3.length c0_3, .int .i64 4, .int .i64 2] (by rfl) rfl rfl (by (try simp only [List.map_toArray, List.map_cons, List.map_nil]); first | done | rfl | (simp only [List.length_drop, List.length_take]; rfl) | (go_simp; done) | (go_simp; omega)) ?_
                     with_reducible refine (towroperef07_number.calls kj19 _ _ l0_3 4 2 t216 _ ?side1 ?side2 A33.out).mono ?_
                     (case side1 => repeat (first | exact (Kd.V_reads' HO_4.out).2.2 | (with_reducible refine Kd.C_alloc ?_ _) | (with_reducible refine Kd.C_drewN ?_ _) | (with_reducible refine Kd.C_drew ?_)))
                     (case side2 => exact (Kd.V_reads' HO_4.out).2.1)
                     rintro e w' ⟨rfl, ⟨nd, rfl⟩⟩
                     refine ⟨_, rfl, ?_⟩
                     refine hK.out _ _ ⟨hHeld.1, hHeld.2.1, hHeld.2.2⟩ (fun hHeld => ?_)
                     clear hK K
                     refine norm_ (a' := ?_) ?_ ?_
                     rotate_left
                     ·
                      show Act.put _ (some 49) _ = _
                      simp only [Act.put, List.setIfInBounds_toArray, List.set_cons_zero, List.set_cons_succ, i64_w, i32_w]
                      rfl
                     refine pure_ (i := 5) (N := some 50) (v := ?_) (a' := ?_) (bb 15 4095) rfl rfl (any_of HT_.out (by kernel_rfl)) (fun _ _ _ h => h) (Or.inl ⟨by rfl, ?_⟩) ?_ ?_
                     rotate_left
                     ·
                      intro w'
                      go_simp
                      with_reducible rfl
                     rotate_left
                     ·
                      simp only [Act.put, List.setIfInBounds_toArray, List.set_cons_zero, List.set_cons_succ, i64_w, i32_w]
                      rfl
                     refine pure_ (i := 12) (N := some 57) (v := ?_) (a' := ?_) (bb 15 8191) rfl rfl (any_of HT_.out (by kernel_rfl)) (fun _ _ _ h => h) (Or.inl ⟨by rfl, ?_⟩) ?_ ?_
                     rotate_left
                     ·
                      intro w'
                      go_simp
                      with_reducible rfl
                     rotate_left
                     ·
                      simp only [Act.put, List.setIfInBounds_toArray, List.set_cons_zero, List.set_cons_succ, i64_w, i32_w]
                      rfl
                     refine one_ (i := 13) (N := some 6) (bb 15 16383) rfl rfl (one_of HT_.out (by kernel_rfl)) (by decide) (fun K hK => ?_)
                     refine box_step ?hg (N := 6) ?hd (cs := #[.int .u8 0, .int .u16 0, .bool false, .bool false, .int .i64 0, .int .u8 0, .int .u8 0, .int .u32 0, .int .u32 0, .slice none 0 0, .slice none 0 0]) (t := 37) ?hr ?_; (case hd => rfl); (case hg => rfl); (case hr => first | (go_simp; done) | (go_simp; rfl))
                     intro gb219 hg w47 hbox hb
                     have HS0_ := (hb.cell (World.block_lt_of_cell? _ _ (hHeld.1))).trans (hHeld.1)
                     have HS1_ := (hb.cell (World.block_lt_of_cell? _ _ (hHeld.2.1))).trans (hHeld.2.1)
                     have HS2_ := (hb.cell (World.block_lt_of_cell? _ _ (hHeld.2.2))).trans (hHeld.2.2)
                     have n0_ := Aside0.mk (Kd.V_below (Kd.V_elderB (by (with_reducible repeat (first | apply Kd.V_alloc | apply Kd.V_drewN | apply Kd.V_drew)); exact HO_4.out) gb219 (Nat.le_of_eq hg.symm)) hb)
                     have n1_ := Aside0.mk (Kd.V_below (Kd.V_elderB (by (with_reducible repeat (first | apply Kd.V_alloc | apply Kd.V_drewN | apply Kd.V_drew)); exact HO_211003.out) gb219 (Nat.le_of_eq hg.symm)) hb)
                     have n2_ := Aside0.mk (blk_below (g := gb210) (o := .cells #[.int .u8 a0_0, .int .u8 a0_1, .int .u32 a0_2, .slice (some ad214) l0_3.length c0_3] 25 (0, 0)) (by (with_reducible repeat (first | refine blk_drewN ?_ _ | refine blk_drew ?_ | refine blk_alloc ?_ _)); exact BK210.out) hb)
                     have n3_ := Aside0.mk (blk_below (g := gb211) (o := .cells #[.int .u8 0, .int .u16 0, .bool false, .bool false, .int .i64 0, .int .u8 0, .int .u8 0, .int .u32 0, .int .u32 0, .slice none 0 0, .slice none 0 0] 37 (0, 0)) (by (with_reducible repeat (first | refine blk_drewN ?_ _ | refine blk_drew ?_ | refine blk_alloc ?_ _)); exact BK211.out) hb)
                     have n4_ := Aside0.mk (below_step (by repeat (first | (with_reducible first | exact HB.out | apply below_alloc | apply pw_below_drewN | apply below_drew1 | refine below_set ?_ GE210.out | refine below_set ?_ GE211.out) | exact HB.out)) hb)
                     have n5_ := Aside0.mk (hbox)
                     have n6_ := Aside0.mk ((by rw [hg]; exact (below_size (by repeat (first | (with_reducible first | exact HB.out | apply below_alloc | apply pw_below_drewN | apply below_drew1 | refine below_set ?_ GE210.out | refine below_set ?_ GE211.out) | exact HB.out))) : w.heap.size ≤ gb219))
                     have n7_ := Aside0.mk ((by rw [hg]; exact (below_size (by repeat (first | (with_reducible first | exact HB.out | apply below_alloc | apply pw_below_drewN | apply below_drew1 | refine below_set ?_ GE210.out | refine below_set ?_ GE211.out) | exact HB.out))) : w.heap.size ≤ gb219))
                     have n8_ := Aside0.mk ((by rw [hg]; exact Nat.ne_of_lt (blk_lt (g := gb210) (o := .cells #[.int .u8 a0_0, .int .u8 a0_1, .int .u32 a0_2, .slice (some ad214) l0_3.length c0_3] 25 (0, 0)) (by (with_reducible repeat (first | refine blk_drewN ?_ _ | refine blk_drew ?_ | refine blk_alloc ?_ _)); exact BK210.out)) : gb210 ≠ gb219))
                     have n9_ := Aside0.mk ((by rw [hg]; exact Nat.ne_of_gt (blk_lt (g := gb210) (o := .cells #[.int .u8 a0_0, .int .u8 a0_1, .int .u32 a0_2, .slice (some ad214) l0_3.length c0_3] 25 (0, 0)) (by (with_reducible repeat (first | refine blk_drewN ?_ _ | refine blk_drew ?_ | refine blk_alloc ?_ _)); exact BK210.out)) : gb219 ≠ gb210))
                     have n10_ := Aside0.mk ((by rw [hg]; exact Nat.ne_of_lt (blk_lt (g := gb211) (o := .cells #[.int .u8 0, .int .u16 0, .bool false, .bool false, .int .i64 0, .int .u8 0, .int .u8 0, .int .u32 0, .int .u32 0, .slice none 0 0, .slice none 0 0] 37 (0, 0)) (by (with_reducible repeat (first | refine blk_drewN ?_ _ | refine blk_drew ?_ | refine blk_alloc ?_ _)); exact BK211.out)) : gb211 ≠ gb219))
                     have n11_ := Aside0.mk ((by rw [hg]; exact Nat.ne_of_gt (blk_lt (g := gb211) (o := .cells #[.int .u8 0, .int .u16 0, .bool false, .bool false, .int .i64 0, .int .u8 0, .int .u8 0, .int .u32 0, .int .u32 0, .slice none 0 0, .slice none 0 0] 37 (0, 0)) (by (with_reducible repeat (first | refine blk_drewN ?_ _ | refine blk_drew ?_ | refine blk_alloc ?_ _)); exact BK211.out)) : gb219 ≠ gb211))
                     clear HO_4
                     clear HO_211003
                     clear BK210
                     clear BK211
                     clear HB
                     have HO_4 := n0_
                     have HO_211003 := n1_
                     have BK210 := n2_
                     have BK211 := n3_
                     have HB := n4_
                     have BK219 := n5_
                     have GW219 := n6_
                     have GE219 := n7_
                     have NB210_219 := n8_
                     have NB219_210 := n9_
                     have NB211_219 := n10_
                     have NB219_211 := n11_
                     clear n0_ n1_ n2_ n3_ n4_ n5_ n6_ n7_ n8_ n9_ n10_ n11_
                     clear hb hbox hg
                     refine hK.out _ _ ⟨HS0_, HS1_, HS2_⟩ (fun hHeld => ?_)
                     clear hK K
                     refine norm_ (a' := ?_) ?_ ?_
                     rotate_left
                     ·
                      show Act.put _ (some 6) _ = _
                      simp only [Act.put, List.setIfInBounds_toArray, List.set_cons_zero, List.set_cons_succ, i64_w, i32_w]
                      rfl
                     exact norm_ (by simp only [putAll, Act.put, List.setIfInBounds_toArray, List.set_cons_zero, List.set_cons_succ]) (hCont (gb219) _ ⟨hHeld, (by (with_reducible repeat (first | apply Kd.V_alloc | apply Kd.V_drewN | apply Kd.V_drew)); exact Kd.V_mono HO_211003.out (fun _ hk => ⟨hk.1.1, ⟨hk.1.2.1, ⟨hk.1.2.2, hk.2⟩⟩⟩)), (by (with_reducible repeat (first | apply Kd.V_alloc | apply Kd.V_drewN | apply Kd.V_drew)); exact Kd.V_mono HO_4.out (fun _ hk => ⟨hk.1.1, ⟨hk.1.2.1, ⟨hk.1.2.2, hk.2⟩⟩⟩)), (by (with_reducible repeat (first | refine blk_drewN ?_ _ | refine blk_drew ?_ | refine blk_alloc ?_ _)); exact BK210.out), (by (with_reducible repeat (first | refine blk_drewN ?_ _ | refine blk_drew ?_ | refine blk_alloc ?_ _)); exact BK211.out), (by (with_reducible repeat (first | refine blk_drewN ?_ _ | refine blk_drew ?_ | refine blk_alloc ?_ _)); exact BK219.out), GW219.out, GE219.out, NB210_219.out, NB219_210.out, NB211_219.out, NB219_211.out, (by repeat (first | (with_reducible first | exact HB.out | apply below_alloc | apply pw_below_drewN | apply below_drew1 | refine below_set ?_ GE210.out | refine below_set ?_ GE211.out | refine below_set ?_ GE219.out) | exact HB.out))⟩)
                    ·
                     skip
                     refine box_step ?hg (N := 6) ?hd (cs := #[.int .u8 0, .int .u16 0, .bool false, .bool false, .int .i64 0, .int .u8 0, .int .u8 0, .int .u32 0, .int .u32 0, .slice none 0 0, .slice none 0 0]) (t := 37) ?hr ?_; (case hd => rfl); (case hg => rfl); (case hr => first | (go_simp; done) | (go_simp; rfl))
                     intro gb219 hg w47 hbox hb
                     have HS0_ := (hb.cell (World.block_lt_of_cell? _ _ (hHeld.1))).trans (hHeld.1)
                     have HS1_ := (hb.cell (World.block_lt_of_cell? _ _ (hHeld.2.1))).trans (hHeld.2.1)
                     have HS2_ := (hb.cell (World.block_lt_of_cell? _ _ (hHeld.2.2))).trans (hHeld.2.2)
                     have n0_ := Aside0.mk (Kd.V_below (Kd.V_elderB (by (with_reducible repeat (first | apply Kd.V_alloc | apply Kd.V_drewN | apply Kd.V_drew)); exact HO_4.out) gb219 (Nat.le_of_eq hg.symm)) hb)
                     have n1_ := Aside0.mk (Kd.V_below (Kd.V_elderB (by (with_reducible repeat (first | apply Kd.V_alloc | apply Kd.V_drewN | apply Kd.V_drew)); exact HO_211003.out) gb219 (Nat.le_of_eq hg.symm)) hb)
                     have n2_ := Aside0.mk (blk_below (g := gb210) (o := .cells #[.int .u8 a0_0, .int .u8 a0_1, .int .u32 a0_2, .slice (some ad214) l0_3.length c0_3] 25 (0, 0)) (by (with_reducible repeat (first | refine blk_drewN ?_ _ | refine blk_drew ?_ | refine blk_alloc ?_ _)); exact BK210.out) hb)
                     have n3_ := Aside0.mk (blk_below (g := gb211) (o := .cells #[.int .u8 0, .int .u16 0, .bool false, .bool false, .int .i64 0, .int .u8 0, .int .u8 0, .int .u32 0, .int .u32 0, .slice none 0 0, .slice none 0 0] 37 (0, 0)) (by (with_reducible repeat (first | refine blk_drewN ?_ _ | refine blk_drew ?_ | refine blk_alloc ?_ _)); exact BK211.out) hb)
                     have n4_ := Aside0.mk (below_step (by repeat (first | (with_reducible first | exact HB.out | apply below_alloc | apply pw_below_drewN | apply below_drew1 | refine below_set ?_ GE210.out | refine below_set ?_ GE211.out) | exact HB.out)) hb)
                     have n5_ := Aside0.mk (hbox)
                     have n6_ := Aside0.mk ((by rw [hg]; exact (below_size (by repeat (first | (with_reducible first | exact HB.out | apply below_alloc | apply pw_below_drewN | apply below_drew1 | refine below_set ?_ GE210.out | refine below_set ?_ GE211.out) | exact HB.out))) : w.heap.size ≤ gb219))
                     have n7_ := Aside0.mk ((by rw [hg]; exact (below_size (by repeat (first | (with_reducible first | exact HB.out | apply below_alloc | apply pw_below_drewN | apply below_drew1 | refine below_set ?_ GE210.out | refine below_set ?_ GE211.out) | exact HB.out))) : w.heap.size ≤ gb219))
                     have n8_ := Aside0.mk ((by rw [hg]; exact Nat.ne_of_lt (blk_lt (g := gb210) (o := .cells #[.int .u8 a0_0, .int .u8 a0_1, .int .u32 a0_2, .slice (some ad214) l0_3.length c0_3] 25 (0, 0)) (by (with_reducible repeat (first | refine blk_drewN ?_ _ | refine blk_drew ?_ | refine blk_alloc ?_ _)); exact BK210.out)) : gb210 ≠ gb219))
                     have n9_ := Aside0.mk ((by rw [hg]; exact Nat.ne_of_gt (blk_lt (g := gb210) (o := .cells #[.int .u8 a0_0, .int .u8 a0_1, .int .u32 a0_2, .slice (some ad214) l0_3.length c0_3] 25 (0, 0)) (by (with_reducible repeat (first | refine blk_drewN ?_ _ | refine blk_drew ?_ | refine blk_alloc ?_ _)); exact BK210.out)) : gb219 ≠ gb210))
                     have n10_ := Aside0.mk ((by rw [hg]; exact Nat.ne_of_lt (blk_lt (g := gb211) (o := .cells #[.int .u8 0, .int .u16 0, .bool false, .bool false, .int .i64 0, .int .u8 0, .int .u8 0, .int .u32 0, .int .u32 0, .slice none 0 0, .slice none 0 0] 37 (0, 0)) (by (with_reducible repeat (first | refine blk_drewN ?_ _ | refine blk_drew ?_ | refine blk_alloc ?_ _)); exact BK211.out)) : gb211 ≠ gb219))
                     have n11_ := Aside0.mk ((by rw [hg]; exact Nat.ne_of_gt (blk_lt (g := gb211) (o := .cells #[.int .u8 0, .int .u16 0, .bool false, .bool false, .int .i64 0, .int .u8 0, .int .u8 0, .int .u32 0, .int .u32 0, .slice none 0 0, .slice none 0 0] 37 (0, 0)) (by (with_reducible repeat (first | refine blk_drewN ?_ _ | refine blk_drew ?_ | refine blk_alloc ?_ _)); exact BK211.out)) : gb219 ≠ gb211))
                     clear HO_4
                     clear HO_211003
                     clear BK210
                     clear BK211
                     clear HB
                     have HO_4 := n0_
                     have HO_211003 := n1_
                     have BK210 := n2_
                     have BK211 := n3_
                     have HB := n4_
                     have BK219 := n5_
                     have GW219 := n6_
                     have GE219 := n7_
                     have NB210_219 := n8_
                     have NB219_210 := n9_
                     have NB211_219 := n10_
                     have NB219_211 := n11_
                     clear n0_ n1_ n2_ n3_ n4_ n5_ n6_ n7_ n8_ n9_ n10_ n11_
                     clear hb hbox hg
                     refine hK.out _ _ ⟨HS0_, HS1_, HS2_⟩ (fun hHeld => ?_)
                     clear hK K
                     refine norm_ (a' := ?_) ?_ ?_
                     rotate_left
                     ·
                      show Act.put _ (some 6) _ = _
                      simp only [Act.put, List.setIfInBounds_toArray, List.set_cons_zero, List.set_cons_succ, i64_w, i32_w]
                      rfl
                     refine one_ (i := 4) (N := some 49) (bb 15 12255) rfl rfl (one_of HT_.out (by kernel_rfl)) (by decide) (fun K hK => ?_)
                     refine goes_ Try.func50 (by kernel_rfl) rfl #[.slice (some ad214) l0_3.length c0_3, .int .i64 4, .int .i64 2] (by rfl) rfl rfl (by (try simp only [List.map_toArray, List.map_cons, List.map_nil]); first | done | rfl | (simp only [List.length_drop, List.length_take]; rfl) | (go_simp; done) | (go_simp; omega)) ?_
                     with_reducible refine (towroperef07_number.calls kj19 _ _ l0_3 4 2 t216 _ ?side1 ?side2 A33.out).mono ?_
                     (case side1 => repeat (first | exact (Kd.V_reads' HO_4.out).2.2 | (with_reducible refine Kd.C_alloc ?_ _) | (with_reducible refine Kd.C_drewN ?_ _) | (with_reducible refine Kd.C_drew ?_)))
                     (case side2 => exact (Kd.V_reads' HO_4.out).2.1)
                     rintro e w' ⟨rfl, ⟨nd, rfl⟩⟩
                     refine ⟨_, rfl, ?_⟩
                     refine hK.out _ _ ⟨hHeld.1, hHeld.2.1, hHeld.2.2⟩ (fun hHeld => ?_)
                     clear hK K
                     refine norm_ (a' := ?_) ?_ ?_
                     rotate_left
                     ·
                      show Act.put _ (some 49) _ = _
                      simp only [Act.put, List.setIfInBounds_toArray, List.set_cons_zero, List.set_cons_succ, i64_w, i32_w]
                      rfl
                     refine pure_ (i := 5) (N := some 50) (v := ?_) (a' := ?_) (bb 15 12287) rfl rfl (any_of HT_.out (by kernel_rfl)) (fun _ _ _ h => h) (Or.inl ⟨by rfl, ?_⟩) ?_ ?_
                     rotate_left
                     ·
                      intro w'
                      go_simp
                      with_reducible rfl
                     rotate_left
                     ·
                      simp only [Act.put, List.setIfInBounds_toArray, List.set_cons_zero, List.set_cons_succ, i64_w, i32_w]
                      rfl
                     refine pure_ (i := 12) (N := some 57) (v := ?_) (a' := ?_) (bb 15 16383) rfl rfl (any_of HT_.out (by kernel_rfl)) (fun _ _ _ h => h) (Or.inl ⟨by rfl, ?_⟩) ?_ ?_
                     rotate_left
                     ·
                      intro w'
                      go_simp
                      with_reducible rfl
                     rotate_left
                     ·
                      simp only [Act.put, List.setIfInBounds_toArray, List.set_cons_zero, List.set_cons_succ, i64_w, i32_w]
                      rfl
                     exact norm_ (by simp only [putAll, Act.put, List.setIfInBounds_toArray, List.set_cons_zero, List.set_cons_succ]) (hCont (gb219) _ ⟨hHeld, (by (with_reducible repeat (first | apply Kd.V_alloc | apply Kd.V_drewN | apply Kd.V_drew)); exact Kd.V_mono HO_211003.out (fun _ hk => ⟨hk.1.1, ⟨hk.1.2.1, ⟨hk.1.2.2, hk.2⟩⟩⟩)), (by (with_reducible repeat (first | apply Kd.V_alloc | apply Kd.V_drewN | apply Kd.V_drew)); exact Kd.V_mono HO_4.out (fun _ hk => ⟨hk.1.1, ⟨hk.1.2.1, ⟨hk.1.2.2, hk.2⟩⟩⟩)), (by (with_reducible repeat (first | refine blk_drewN ?_ _ | refine blk_drew ?_ | refine blk_alloc ?_ _)); exact BK210.out), (by (with_reducible repeat (first | refine blk_drewN ?_ _ | refine blk_drew ?_ | refine blk_alloc ?_ _)); exact BK211.out), (by (with_reducible repeat (first | refine blk_drewN ?_ _ | refine blk_drew ?_ | refine blk_alloc ?_ _)); exact BK219.out), GW219.out, GE219.out, NB210_219.out, NB219_210.out, NB211_219.out, NB219_211.out, (by repeat (first | (with_reducible first | exact HB.out | apply below_alloc | apply pw_below_drewN | apply below_drew1 | refine below_set ?_ GE210.out | refine below_set ?_ GE211.out | refine below_set ?_ GE219.out) | exact HB.out))⟩)
                   rintro gb219 w48 ⟨hS_, h0_, h1_, h2_, h3_, h4_, h5_, h6_, h7_, h8_, h9_, h10_, h11_⟩
                   have n0_ : Aside0 (Kd.V (Kd.int .u8) 5 w48 w.heap.size (fun k_ => (P0_3_ k_ ∨ w.heap.size ≤ k_) ∧ k_ ≠ gb210 ∧ k_ ≠ gb211 ∧ k_ ≠ gb219) (.slice (some ad214) l0_3.length c0_3) l0_3) := ⟨h0_⟩
                   have n1_ : Aside0 (Kd.V (Kd.int .u8) 5 w48 w.heap.size (fun k_ => (P0_3_ k_ ∨ w.heap.size ≤ k_) ∧ k_ ≠ gb210 ∧ k_ ≠ gb211 ∧ k_ ≠ gb219) (.slice (some ad214) l0_3.length c0_3) l0_3) := ⟨h1_⟩
                   have n2_ : Aside0 (w48.heap[gb210]? = some (.cells #[.int .u8 a0_0, .int .u8 a0_1, .int .u32 a0_2, .slice (some ad214) l0_3.length c0_3] 25 (0, 0))) := ⟨h2_⟩
                   have n3_ : Aside0 (w48.heap[gb211]? = some (.cells #[.int .u8 0, .int .u16 0, .bool false, .bool false, .int .i64 0, .int .u8 0, .int .u8 0, .int .u32 0, .int .u32 0, .slice none 0 0, .slice none 0 0] 37 (0, 0))) := ⟨h3_⟩
                   have n4_ : Aside0 (w48.heap[gb219]? = some (.cells #[.int .u8 0, .int .u16 0, .bool false, .bool false, .int .i64 0, .int .u8 0, .int .u8 0, .int .u32 0, .int .u32 0, .slice none 0 0, .slice none 0 0] 37 (0, 0))) := ⟨h4_⟩
                   have n5_ : Aside0 (w.heap.size ≤ gb219) := ⟨h5_⟩
                   have n6_ : Aside0 (w.heap.size ≤ gb219) := ⟨h6_⟩
                   have n7_ : Aside0 (gb210 ≠ gb219) := ⟨h7_⟩
                   have n8_ : Aside0 (gb219 ≠ gb210) := ⟨h8_⟩
                   have n9_ : Aside0 (gb211 ≠ gb219) := ⟨h9_⟩
                   have n10_ : Aside0 (gb219 ≠ gb211) := ⟨h10_⟩
                   have n11_ : Aside0 (Below w.heap.size w w48) := ⟨h11_⟩
                   clear HO_4
                   clear HO_211003
                   clear BK210
                   clear BK211
                   clear HB
                   clear h0_ h1_ h2_ h3_ h4_ h5_ h6_ h7_ h8_ h9_ h10_ h11_
                   have HO_211003 := n0_
                   have HO_4 := n1_
                   have BK210 := n2_
                   have BK211 := n3_
                   have BK219 := n4_
                   have GW219 := n5_
                   have GE219 := n6_
                   have NB210_219 := n7_
                   have NB219_210 := n8_
                   have NB211_219 := n9_
                   have NB219_211 := n10_
                   have HB := n11_
                   clear n0_ n1_ n2_ n3_ n4_ n5_ n6_ n7_ n8_ n9_ n10_ n11_
                   have hHeld : w48.cell? ⟨ad214.block, ad214.off + 1, none⟩ = some (.int .u8 (rd l0_3 1)) ∧ w48.cell? ⟨ad214.block, ad214.off + 8, none⟩ = some (.int .u8 (rd l0_3 8)) ∧ w48.cell? ⟨ad214.block, ad214.off + 9, none⟩ = some (.int .u8 (rd l0_3 9)) := hS_
                   refine norm_ (a' := ?_) ?_ ?_
                   rotate_left
                   ·
                    simp only [putAll, Act.put, List.setIfInBounds_toArray, List.set_cons_zero, List.set_cons_succ]
                    rfl
                   refine one_ (i := 14) (N := none) (bb 15 32767) rfl rfl (one_of HT_.out (by kernel_rfl)) (by decide) (fun K hK => ?_)
                   have hs49 : w48.cell? ⟨gb219, 0, none⟩ = some (.int .u8 0) := (blk_cell BK219.out 0).trans rfl
                   have hfs49 := blk_frozen BK219.out 0
                   have hns49_0 := NB210_219.out
                   have hns49_1 := NB211_219.out
                   have hms49_0 := NB219_210.out
                   have hms49_1 := NB219_211.out
                   have hs50 : w48.cell? ⟨gb219, 1, none⟩ = some (.int .u16 0) := (blk_cell BK219.out 1).trans rfl
                   have hfs50 := blk_frozen BK219.out 1
                   have hns50_0 := NB210_219.out
                   have hns50_1 := NB211_219.out
                   have hms50_0 := NB219_210.out
                   have hms50_1 := NB219_211.out
                   have hs51 : w48.cell? ⟨gb219, 2, none⟩ = some (.bool false) := (blk_cell BK219.out 2).trans rfl
                   have hfs51 := blk_frozen BK219.out 2
                   have hns51_0 := NB210_219.out
                   have hns51_1 := NB211_219.out
                   have hms51_0 := NB219_210.out
                   have hms51_1 := NB219_211.out
                   have hs52 : w48.cell? ⟨gb219, 3, none⟩ = some (.bool false) := (blk_cell BK219.out 3).trans rfl
                   have hfs52 := blk_frozen BK219.out 3
                   have hns52_0 := NB210_219.out
                   have hns52_1 := NB211_219.out
                   have hms52_0 := NB219_210.out
                   have hms52_1 := NB219_211.out
                   have hs53 : w48.cell? ⟨gb219, 4, none⟩ = some (.int .i64 0) := (blk_cell BK219.out 4).trans rfl
                   have hfs53 := blk_frozen BK219.out 4
                   have hns53_0 := NB210_219.out
                   have hns53_1 := NB211_219.out
                   have hms53_0 := NB219_210.out
                   have hms53_1 := NB219_211.out
                   have hs54 : w48.cell? ⟨gb219, 5, none⟩ = some (.int .u8 0) := (blk_cell BK219.out 5).trans rfl
                   have hfs54 := blk_frozen BK219.out 5
                   have hns54_0 := NB210_219.out
                   have hns54_1 := NB211_219.out
                   have hms54_0 := NB219_210.out
                   have hms54_1 := NB219_211.out
                   have hs55 : w48.cell? ⟨gb219, 6, none⟩ = some (.int .u8 0) := (blk_cell BK219.out 6).trans rfl
                   have hfs55 := blk_frozen BK219.out 6
                   have hns55_0 := NB210_219.out
                   have hns55_1 := NB211_219.out
                   have hms55_0 := NB219_210.out
                   have hms55_1 := NB219_211.out
                   have hs56 : w48.cell? ⟨gb219, 7, none⟩ = some (.int .u32 0) := (blk_cell BK219.out 7).trans rfl
                   have hfs56 := blk_frozen BK219.out 7
                   have hns56_0 := NB210_219.out
                   have hns56_1 := NB211_219.out
                   have hms56_0 := NB219_210.out
                   have hms56_1 := NB219_211.out
                   have hs57 : w48.cell? ⟨gb219, 8, none⟩ = some (.int .u32 0) := (blk_cell BK219.out 8).trans rfl
                   have hfs57 := blk_frozen BK219.out 8
                   have hns57_0 := NB210_219.out
                   have hns57_1 := NB211_219.out
                   have hms57_0 := NB219_210.out
                   have hms57_1 := NB219_211.out
                   have hs58 : w48.cell? ⟨gb219, 9, none⟩ = some (.slice none 0 0) := (blk_cell BK219.out 9).trans rfl
                   have hfs58 := blk_frozen BK219.out 9
                   have hns58_0 := NB210_219.out
                   have hns58_1 := NB211_219.out
                   have hms58_0 := NB219_210.out
                   have hms58_1 := NB219_211.out
                   have hs59 : w48.cell? ⟨gb219, 10, none⟩ = some (.slice none 0 0) := (blk_cell BK219.out 10).trans rfl
                   have hfs59 := blk_frozen BK219.out 10
                   have hns59_0 := NB210_219.out
                   have hns59_1 := NB211_219.out
                   have hms59_0 := NB219_210.out
                   have hms59_1 := NB219_211.out
                   refine skip_ (w1 := ?_) (by rfl) rfl ?_ ?_
                   rotate_left
                   ·
                    go_simp
                    rfl
                   refine hK.out _ _ ⟨((cell_far (p := ⟨gb219, _, none⟩) (by first | exact Kd.own_blk (Kd.V_away HO_4.out (fun _ hk => hk.2.2.2)) | (rw [add_block]; exact Kd.own_blk (Kd.V_away HO_4.out (fun _ hk => hk.2.2.2))) | (show (Addr.add _ _).block ≠ _; rw [add_block]; exact Kd.own_blk (Kd.V_away HO_4.out (fun _ hk => hk.2.2.2))) | (dsimp only; exact Kd.own_blk (Kd.V_away HO_4.out (fun _ hk => hk.2.2.2)))) _).trans (((cell_far (p := ⟨gb219, _, none⟩) (by first | exact Kd.own_blk (Kd.V_away HO_4.out (fun _ hk => hk.2.2.2)) | (rw [add_block]; exact Kd.own_blk (Kd.V_away HO_4.out (fun _ hk => hk.2.2.2))) | (show (Addr.add _ _).block ≠ _; rw [add_block]; exact Kd.own_blk (Kd.V_away HO_4.out (fun _ hk => hk.2.2.2))) | (dsimp only; exact Kd.own_blk (Kd.V_away HO_4.out (fun _ hk => hk.2.2.2)))) _).trans (((cell_far (p := ⟨gb219, _, none⟩) (by first | exact Kd.own_blk (Kd.V_away HO_4.out (fun _ hk => hk.2.2.2)) | (rw [add_block]; exact Kd.own_blk (Kd.V_away HO_4.out (fun _ hk => hk.2.2.2))) | (show (Addr.add _ _).block ≠ _; rw [add_block]; exact Kd.own_blk (Kd.V_away HO_4.out (fun _ hk => hk.2.2.2))) | (dsimp only; exact Kd.own_blk (Kd.V_away HO_4.out (fun _ hk => hk.2.2.2)))) _).trans (((cell_far (p := ⟨gb219, _, none⟩) (by first | exact Kd.own_blk (Kd.V_away HO_4.out (fun _ hk => hk.2.2.2)) | (rw [add_block]; exact Kd.own_blk (Kd.V_away HO_4.out (fun _ hk => hk.2.2.2))) | (show (Addr.add _ _).block ≠ _; rw [add_block]; exact Kd.own_blk (Kd.V_away HO_4.out (fun _ hk => hk.2.2.2))) | (dsimp only; exact Kd.own_blk (Kd.V_away HO_4.out (fun _ hk => hk.2.2.2)))) _).trans (((cell_far (p := ⟨gb219, _, none⟩) (by first | exact Kd.own_blk (Kd.V_away HO_4.out (fun _ hk => hk.2.2.2)) | (rw [add_block]; exact Kd.own_blk (Kd.V_away HO_4.out (fun _ hk => hk.2.2.2))) | (show (Addr.add _ _).block ≠ _; rw [add_block]; exact Kd.own_blk (Kd.V_away HO_4.out (fun _ hk => hk.2.2.2))) | (dsimp only; exact Kd.own_blk (Kd.V_away HO_4.out (fun _ hk => hk.2.2.2)))) _).trans (((cell_far (p := ⟨gb219, _, none⟩) (by first | exact Kd.own_blk (Kd.V_away HO_4.out (fun _ hk => hk.2.2.2)) | (rw [add_block]; exact Kd.own_blk (Kd.V_away HO_4.out (fun _ hk => hk.2.2.2))) | (show (Addr.add _ _).block ≠ _; rw [add_block]; exact Kd.own_blk (Kd.V_away HO_4.out (fun _ hk => hk.2.2.2))) | (dsimp only; exact Kd.own_blk (Kd.V_away HO_4.out (fun _ hk => hk.2.2.2)))) _).trans (((cell_far (p := ⟨gb219, _, none⟩) (by first | exact Kd.own_blk (Kd.V_away HO_4.out (fun _ hk => hk.2.2.2)) | (rw [add_block]; exact Kd.own_blk (Kd.V_away HO_4.out (fun _ hk => hk.2.2.2))) | (show (Addr.add _ _).block ≠ _; rw [add_block]; exact Kd.own_blk (Kd.V_away HO_4.out (fun _ hk => hk.2.2.2))) | (dsimp only; exact Kd.own_blk (Kd.V_away HO_4.out (fun _ hk => hk.2.2.2)))) _).trans (((cell_far (p := ⟨gb219, _, none⟩) (by first | exact Kd.own_blk (Kd.V_away HO_4.out (fun _ hk => hk.2.2.2)) | (rw [add_block]; exact Kd.own_blk (Kd.V_away HO_4.out (fun _ hk => hk.2.2.2))) | (show (Addr.add _ _).block ≠ _; rw [add_block]; exact Kd.own_blk (Kd.V_away HO_4.out (fun _ hk => hk.2.2.2))) | (dsimp only; exact Kd.own_blk (Kd.V_away HO_4.out (fun _ hk => hk.2.2.2)))) _).trans (((cell_far (p := ⟨gb219, _, none⟩) (by first | exact Kd.own_blk (Kd.V_away HO_4.out (fun _ hk => hk.2.2.2)) | (rw [add_block]; exact Kd.own_blk (Kd.V_away HO_4.out (fun _ hk => hk.2.2.2))) | (show (Addr.add _ _).block ≠ _; rw [add_block]; exact Kd.own_blk (Kd.V_away HO_4.out (fun _ hk => hk.2.2.2))) | (dsimp only; exact Kd.own_blk (Kd.V_away HO_4.out (fun _ hk => hk.2.2.2)))) _).trans (((cell_far (p := ⟨gb219, _, none⟩) (by first | exact Kd.own_blk (Kd.V_away HO_4.out (fun _ hk => hk.2.2.2)) | (rw [add_block]; exact Kd.own_blk (Kd.V_away HO_4.out (fun _ hk => hk.2.2.2))) | (show (Addr.add _ _).block ≠ _; rw [add_block]; exact Kd.own_blk (Kd.V_away HO_4.out (fun _ hk => hk.2.2.2))) | (dsimp only; exact Kd.own_blk (Kd.V_away HO_4.out (fun _ hk => hk.2.2.2)))) _).trans (((cell_far (p := ⟨gb219, _, none⟩) (by first | exact Kd.own_blk (Kd.V_away HO_4.out (fun _ hk => hk.2.2.2)) | (rw [add_block]; exact Kd.own_blk (Kd.V_away HO_4.out (fun _ hk => hk.2.2.2))) | (show (Addr.add _ _).block ≠ _; rw [add_block]; exact Kd.own_blk (Kd.V_away HO_4.out (fun _ hk => hk.2.2.2))) | (dsimp only; exact Kd.own_blk (Kd.V_away HO_4.out (fun _ hk => hk.2.2.2)))) _).trans (hHeld.1)))))))))))))))))))))), ((cell_far (p := ⟨gb219, _, none⟩) (by first | exact Kd.own_blk (Kd.V_away HO_4.out (fun _ hk => hk.2.2.2)) | (rw [add_block]; exact Kd.own_blk (Kd.V_away HO_4.out (fun _ hk => hk.2.2.2))) | (show (Addr.add _ _).block ≠ _; rw [add_block]; exact Kd.own_blk (Kd.V_away HO_4.out (fun _ hk => hk.2.2.2))) | (dsimp only; exact Kd.own_blk (Kd.V_away HO_4.out (fun _ hk => hk.2.2.2)))) _).trans (((cell_far (p := ⟨gb219, _, none⟩) (by first | exact Kd.own_blk (Kd.V_away HO_4.out (fun _ hk => hk.2.2.2)) | (rw [add_block]; exact Kd.own_blk (Kd.V_away HO_4.out (fun _ hk => hk.2.2.2))) | (show (Addr.add _ _).block ≠ _; rw [add_block]; exact Kd.own_blk (Kd.V_away HO_4.out (fun _ hk => hk.2.2.2))) | (dsimp only; exact Kd.own_blk (Kd.V_away HO_4.out (fun _ hk => hk.2.2.2)))) _).trans (((cell_far (p := ⟨gb219, _, none⟩) (by first | exact Kd.own_blk (Kd.V_away HO_4.out (fun _ hk => hk.2.2.2)) | (rw [add_block]; exact Kd.own_blk (Kd.V_away HO_4.out (fun _ hk => hk.2.2.2))) | (show (Addr.add _ _).block ≠ _; rw [add_block]; exact Kd.own_blk (Kd.V_away HO_4.out (fun _ hk => hk.2.2.2))) | (dsimp only; exact Kd.own_blk (Kd.V_away HO_4.out (fun _ hk => hk.2.2.2)))) _).trans (((cell_far (p := ⟨gb219, _, none⟩) (by first | exact Kd.own_blk (Kd.V_away HO_4.out (fun _ hk => hk.2.2.2)) | (rw [add_block]; exact Kd.own_blk (Kd.V_away HO_4.out (fun _ hk => hk.2.2.2))) | (show (Addr.add _ _).block ≠ _; rw [add_block]; exact Kd.own_blk (Kd.V_away HO_4.out (fun _ hk => hk.2.2.2))) | (dsimp only; exact Kd.own_blk (Kd.V_away HO_4.out (fun _ hk => hk.2.2.2)))) _).trans (((cell_far (p := ⟨gb219, _, none⟩) (by first | exact Kd.own_blk (Kd.V_away HO_4.out (fun _ hk => hk.2.2.2)) | (rw [add_block]; exact Kd.own_blk (Kd.V_away HO_4.out (fun _ hk => hk.2.2.2))) | (show (Addr.add _ _).block ≠ _; rw [add_block]; exact Kd.own_blk (Kd.V_away HO_4.out (fun _ hk => hk.2.2.2))) | (dsimp only; exact Kd.own_blk (Kd.V_away HO_4.out (fun _ hk => hk.2.2.2)))) _).trans (((cell_far (p := ⟨gb219, _, none⟩) (by first | exact Kd.own_blk (Kd.V_away HO_4.out (fun _ hk => hk.2.2.2)) | (rw [add_block]; exact Kd.own_blk (Kd.V_away HO_4.out (fun _ hk => hk.2.2.2))) | (show (Addr.add _ _).block ≠ _; rw [add_block]; exact Kd.own_blk (Kd.V_away HO_4.out (fun _ hk => hk.2.2.2))) | (dsimp only; exact Kd.own_blk (Kd.V_away HO_4.out (fun _ hk => hk.2.2.2)))) _).trans (((cell_far (p := ⟨gb219, _, none⟩) (by first | exact Kd.own_blk (Kd.V_away HO_4.out (fun _ hk => hk.2.2.2)) | (rw [add_block]; exact Kd.own_blk (Kd.V_away HO_4.out (fun _ hk => hk.2.2.2))) | (show (Addr.add _ _).block ≠ _; rw [add_block]; exact Kd.own_blk (Kd.V_away HO_4.out (fun _ hk => hk.2.2.2))) | (dsimp only; exact Kd.own_blk (Kd.V_away HO_4.out (fun _ hk => hk.2.2.2)))) _).trans (((cell_far (p := ⟨gb219, _, none⟩) (by first | exact Kd.own_blk (Kd.V_away HO_4.out (fun _ hk => hk.2.2.2)) | (rw [add_block]; exact Kd.own_blk (Kd.V_away HO_4.out (fun _ hk => hk.2.2.2))) | (show (Addr.add _ _).block ≠ _; rw [add_block]; exact Kd.own_blk (Kd.V_away HO_4.out (fun _ hk => hk.2.2.2))) | (dsimp only; exact Kd.own_blk (Kd.V_away HO_4.out (fun _ hk => hk.2.2.2)))) _).trans (((cell_far (p := ⟨gb219, _, none⟩) (by first | exact Kd.own_blk (Kd.V_away HO_4.out (fun _ hk => hk.2.2.2)) | (rw [add_block]; exact Kd.own_blk (Kd.V_away HO_4.out (fun _ hk => hk.2.2.2))) | (show (Addr.add _ _).block ≠ _; rw [add_block]; exact Kd.own_blk (Kd.V_away HO_4.out (fun _ hk => hk.2.2.2))) | (dsimp only; exact Kd.own_blk (Kd.V_away HO_4.out (fun _ hk => hk.2.2.2)))) _).trans (((cell_far (p := ⟨gb219, _, none⟩) (by first | exact Kd.own_blk (Kd.V_away HO_4.out (fun _ hk => hk.2.2.2)) | (rw [add_block]; exact Kd.own_blk (Kd.V_away HO_4.out (fun _ hk => hk.2.2.2))) | (show (Addr.add _ _).block ≠ _; rw [add_block]; exact Kd.own_blk (Kd.V_away HO_4.out (fun _ hk => hk.2.2.2))) | (dsimp only; exact Kd.own_blk (Kd.V_away HO_4.out (fun _ hk => hk.2.2.2)))) _).trans (((cell_far (p := ⟨gb219, _, none⟩) (by first | exact Kd.own_blk (Kd.V_away HO_4.out (fun _ hk => hk.2.2.2)) | (rw [add_block]; exact Kd.own_blk (Kd.V_away HO_4.out (fun _ hk => hk.2.2.2))) | (show (Addr.add _ _).block ≠ _; rw [add_block]; exact Kd.own_blk (Kd.V_away HO_4.out (fun _ hk => hk.2.2.2))) | (dsimp only; exact Kd.own_blk (Kd.V_away HO_4.out (fun _ hk => hk.2.2.2)))) _).trans (hHeld.2.1)))))))))))))))))))))), ((cell_far (p := ⟨gb219, _, none⟩) (by first | exact Kd.own_blk (Kd.V_away HO_4.out (fun _ hk => hk.2.2.2)) | (rw [add_block]; exact Kd.own_blk (Kd.V_away HO_4.out (fun _ hk => hk.2.2.2))) | (show (Addr.add _ _).block ≠ _; rw [add_block]; exact Kd.own_blk (Kd.V_away HO_4.out (fun _ hk => hk.2.2.2))) | (dsimp only; exact Kd.own_blk (Kd.V_away HO_4.out (fun _ hk => hk.2.2.2)))) _).trans (((cell_far (p := ⟨gb219, _, none⟩) (by first | exact Kd.own_blk (Kd.V_away HO_4.out (fun _ hk => hk.2.2.2)) | (rw [add_block]; exact Kd.own_blk (Kd.V_away HO_4.out (fun _ hk => hk.2.2.2))) | (show (Addr.add _ _).block ≠ _; rw [add_block]; exact Kd.own_blk (Kd.V_away HO_4.out (fun _ hk => hk.2.2.2))) | (dsimp only; exact Kd.own_blk (Kd.V_away HO_4.out (fun _ hk => hk.2.2.2)))) _).trans (((cell_far (p := ⟨gb219, _, none⟩) (by first | exact Kd.own_blk (Kd.V_away HO_4.out (fun _ hk => hk.2.2.2)) | (rw [add_block]; exact Kd.own_blk (Kd.V_away HO_4.out (fun _ hk => hk.2.2.2))) | (show (Addr.add _ _).block ≠ _; rw [add_block]; exact Kd.own_blk (Kd.V_away HO_4.out (fun _ hk => hk.2.2.2))) | (dsimp only; exact Kd.own_blk (Kd.V_away HO_4.out (fun _ hk => hk.2.2.2)))) _).trans (((cell_far (p := ⟨gb219, _, none⟩) (by first | exact Kd.own_blk (Kd.V_away HO_4.out (fun _ hk => hk.2.2.2)) | (rw [add_block]; exact Kd.own_blk (Kd.V_away HO_4.out (fun _ hk => hk.2.2.2))) | (show (Addr.add _ _).block ≠ _; rw [add_block]; exact Kd.own_blk (Kd.V_away HO_4.out (fun _ hk => hk.2.2.2))) | (dsimp only; exact Kd.own_blk (Kd.V_away HO_4.out (fun _ hk => hk.2.2.2)))) _).trans (((cell_far (p := ⟨gb219, _, none⟩) (by first | exact Kd.own_blk (Kd.V_away HO_4.out (fun _ hk => hk.2.2.2)) | (rw [add_block]; exact Kd.own_blk (Kd.V_away HO_4.out (fun _ hk => hk.2.2.2))) | (show (Addr.add _ _).block ≠ _; rw [add_block]; exact Kd.own_blk (Kd.V_away HO_4.out (fun _ hk => hk.2.2.2))) | (dsimp only; exact Kd.own_blk (Kd.V_away HO_4.out (fun _ hk => hk.2.2.2)))) _).trans (((cell_far (p := ⟨gb219, _, none⟩) (by first | exact Kd.own_blk (Kd.V_away HO_4.out (fun _ hk => hk.2.2.2)) | (rw [add_block]; exact Kd.own_blk (Kd.V_away HO_4.out (fun _ hk => hk.2.2.2))) | (show (Addr.add _ _).block ≠ _; rw [add_block]; exact Kd.own_blk (Kd.V_away HO_4.out (fun _ hk => hk.2.2.2))) | (dsimp only; exact Kd.own_blk (Kd.V_away HO_4.out (fun _ hk => hk.2.2.2)))) _).trans (((cell_far (p := ⟨gb219, _, none⟩) (by first | exact Kd.own_blk (Kd.V_away HO_4.out (fun _ hk => hk.2.2.2)) | (rw [add_block]; exact Kd.own_blk (Kd.V_away HO_4.out (fun _ hk => hk.2.2.2))) | (show (Addr.add _ _).block ≠ _; rw [add_block]; exact Kd.own_blk (Kd.V_away HO_4.out (fun _ hk => hk.2.2.2))) | (dsimp only; exact Kd.own_blk (Kd.V_away HO_4.out (fun _ hk => hk.2.2.2)))) _).trans (((cell_far (p := ⟨gb219, _, none⟩) (by first | exact Kd.own_blk (Kd.V_away HO_4.out (fun _ hk => hk.2.2.2)) | (rw [add_block]; exact Kd.own_blk (Kd.V_away HO_4.out (fun _ hk => hk.2.2.2))) | (show (Addr.add _ _).block ≠ _; rw [add_block]; exact Kd.own_blk (Kd.V_away HO_4.out (fun _ hk => hk.2.2.2))) | (dsimp only; exact Kd.own_blk (Kd.V_away HO_4.out (fun _ hk => hk.2.2.2)))) _).trans (((cell_far (p := ⟨gb219, _, none⟩) (by first | exact Kd.own_blk (Kd.V_away HO_4.out (fun _ hk => hk.2.2.2)) | (rw [add_block]; exact Kd.own_blk (Kd.V_away HO_4.out (fun _ hk => hk.2.2.2))) | (show (Addr.add _ _).block ≠ _; rw [add_block]; exact Kd.own_blk (Kd.V_away HO_4.out (fun _ hk => hk.2.2.2))) | (dsimp only; exact Kd.own_blk (Kd.V_away HO_4.out (fun _ hk => hk.2.2.2)))) _).trans (((cell_far (p := ⟨gb219, _, none⟩) (by first | exact Kd.own_blk (Kd.V_away HO_4.out (fun _ hk => hk.2.2.2)) | (rw [add_block]; exact Kd.own_blk (Kd.V_away HO_4.out (fun _ hk => hk.2.2.2))) | (show (Addr.add _ _).block ≠ _; rw [add_block]; exact Kd.own_blk (Kd.V_away HO_4.out (fun _ hk => hk.2.2.2))) | (dsimp only; exact Kd.own_blk (Kd.V_away HO_4.out (fun _ hk => hk.2.2.2)))) _).trans (((cell_far (p := ⟨gb219, _, none⟩) (by first | exact Kd.own_blk (Kd.V_away HO_4.out (fun _ hk => hk.2.2.2)) | (rw [add_block]; exact Kd.own_blk (Kd.V_away HO_4.out (fun _ hk => hk.2.2.2))) | (show (Addr.add _ _).block ≠ _; rw [add_block]; exact Kd.own_blk (Kd.V_away HO_4.out (fun _ hk => hk.2.2.2))) | (dsimp only; exact Kd.own_blk (Kd.V_away HO_4.out (fun _ hk => hk.2.2.2)))) _).trans (hHeld.2.2))))))))))))))))))))))⟩ (fun hHeld => ?_)
                   clear hK K
                   refine done_ (done_of HT_.out (by kernel_rfl)) ?_
                   have p220 : 0 ≤ (6 : Int) := (by omega)
                   have q220 : 6 < (l0_3.length : Int) := of_decide_eq_true (by first | (with_reducible assumption) | assumption)
                   obtain ⟨ad220, e220, hx220_0⟩ := Kd.at_int (Kd.V_reads' HO_4.out).2.2 6 p220 q220
                   obtain rfl : ad214 = ad220 := (by injection e220)
                   (try simp only [show (6 : Int).toNat = 6 from rfl, Nat.reduceMul, Nat.reduceEqDiff, Go.Addr.add, ↓reduceIte] at hx220_0)
                   have qi220 : (6 < l0_3.length) = True := eq_true (by omega)
                   (try rw [show ((6 : Int)).toNat = 6 from rfl] at hx220_0)
                   have hn220_0 : ad214.block ≠ gb219 := Kd.own_blk (Kd.V_away HO_4.out (fun _ hk => by first | exact hk.2 | exact hk.2.1 | exact hk.2.2 | exact hk.2.2.1 | exact hk.2.2.2 | exact hk.2.2.2.1 | exact hk.2.2.2.2 | exact hk.1.2))
                   have hn220_1 : ad214.block ≠ gb219 := Kd.own_blk (Kd.V_away HO_4.out (fun _ hk => by first | exact hk.2 | exact hk.2.1 | exact hk.2.2 | exact hk.2.2.1 | exact hk.2.2.2 | exact hk.2.2.2.1 | exact hk.2.2.2.2 | exact hk.1.2))
                   have hn220_2 : ad214.block ≠ gb219 := Kd.own_blk (Kd.V_away HO_4.out (fun _ hk => by first | exact hk.2 | exact hk.2.1 | exact hk.2.2 | exact hk.2.2.1 | exact hk.2.2.2 | exact hk.2.2.2.1 | exact hk.2.2.2.2 | exact hk.1.2))
                   have hn220_3 : ad214.block ≠ gb219 := Kd.own_blk (Kd.V_away HO_4.out (fun _ hk => by first | exact hk.2 | exact hk.2.1 | exact hk.2.2 | exact hk.2.2.1 | exact hk.2.2.2 | exact hk.2.2.2.1 | exact hk.2.2.2.2 | exact hk.1.2))
                   have hn220_4 : ad214.block ≠ gb219 := Kd.own_blk (Kd.V_away HO_4.out (fun _ hk => by first | exact hk.2 | exact hk.2.1 | exact hk.2.2 | exact hk.2.2.1 | exact hk.2.2.2 | exact hk.2.2.2.1 | exact hk.2.2.2.2 | exact hk.1.2))
                   have hn220_5 : ad214.block ≠ gb219 := Kd.own_blk (Kd.V_away HO_4.out (fun _ hk => by first | exact hk.2 | exact hk.2.1 | exact hk.2.2 | exact hk.2.2.1 | exact hk.2.2.2 | exact hk.2.2.2.1 | exact hk.2.2.2.2 | exact hk.1.2))
                   have hn220_6 : ad214.block ≠ gb219 := Kd.own_blk (Kd.V_away HO_4.out (fun _ hk => by first | exact hk.2 | exact hk.2.1 | exact hk.2.2 | exact hk.2.2.1 | exact hk.2.2.2 | exact hk.2.2.2.1 | exact hk.2.2.2.2 | exact hk.1.2))
                   have hn220_7 : ad214.block ≠ gb219 := Kd.own_blk (Kd.V_away HO_4.out (fun _ hk => by first | exact hk.2 | exact hk.2.1 | exact hk.2.2 | exact hk.2.2.1 | exact hk.2.2.2 | exact hk.2.2.2.1 | exact hk.2.2.2.2 | exact hk.1.2))
                   have hn220_8 : ad214.block ≠ gb219 := Kd.own_blk (Kd.V_away HO_4.out (fun _ hk => by first | exact hk.2 | exact hk.2.1 | exact hk.2.2 | exact hk.2.2.1 | exact hk.2.2.2 | exact hk.2.2.2.1 | exact hk.2.2.2.2 | exact hk.1.2))
                   have hn220_9 : ad214.block ≠ gb219 := Kd.own_blk (Kd.V_away HO_4.out (fun _ hk => by first | exact hk.2 | exact hk.2.1 | exact hk.2.2 | exact hk.2.2.1 | exact hk.2.2.2 | exact hk.2.2.2.1 | exact hk.2.2.2.2 | exact hk.1.2))
                   have hn220_10 : ad214.block ≠ gb219 := Kd.own_blk (Kd.V_away HO_4.out (fun _ hk => by first | exact hk.2 | exact hk.2.1 | exact hk.2.2 | exact hk.2.2.1 | exact hk.2.2.2 | exact hk.2.2.2.1 | exact hk.2.2.2.2 | exact hk.1.2))
                   replace hx220_0 := (cell_far (p := ⟨gb219, 0, none⟩) (by first | (rw [add_block]; exact hn220_0) | (show (Addr.add _ _).block ≠ _; rw [add_block]; exact hn220_0) | exact hn220_0) (.int .u8 (rd l0_3 1))).trans hx220_0
                   replace hx220_0 := (cell_far (p := ⟨gb219, 1, none⟩) (by first | (rw [add_block]; exact hn220_1) | (show (Addr.add _ _).block ≠ _; rw [add_block]; exact hn220_1) | exact hn220_1) (.int .u16 (IntKind.u16.wrap (t216)))).trans hx220_0
                   replace hx220_0 := (cell_far (p := ⟨gb219, 2, none⟩) (by first | (rw [add_block]; exact hn220_2) | (show (Addr.add _ _).block ≠ _; rw [add_block]; exact hn220_2) | exact hn220_2) (.bool false)).trans hx220_0
                   replace hx220_0 := (cell_far (p := ⟨gb219, 3, none⟩) (by first | (rw [add_block]; exact hn220_3) | (show (Addr.add _ _).block ≠ _; rw [add_block]; exact hn220_3) | exact hn220_3) (.bool false)).trans hx220_0
                   replace hx220_0 := (cell_far (p := ⟨gb219, 4, none⟩) (by first | (rw [add_block]; exact hn220_4) | (show (Addr.add _ _).block ≠ _; rw [add_block]; exact hn220_4) | exact hn220_4) (.int .i64 0)).trans hx220_0
                   replace hx220_0 := (cell_far (p := ⟨gb219, 5, none⟩) (by first | (rw [add_block]; exact hn220_5) | (show (Addr.add _ _).block ≠ _; rw [add_block]; exact hn220_5) | exact hn220_5) (.int .u8 (rd l0_3 8))).trans hx220_0
                   replace hx220_0 := (cell_far (p := ⟨gb219, 6, none⟩) (by first | (rw [add_block]; exact hn220_6) | (show (Addr.add _ _).block ≠ _; rw [add_block]; exact hn220_6) | exact hn220_6) (.int .u8 (rd l0_3 9))).trans hx220_0
                   replace hx220_0 := (cell_far (p := ⟨gb219, 7, none⟩) (by first | (rw [add_block]; exact hn220_7) | (show (Addr.add _ _).block ≠ _; rw [add_block]; exact hn220_7) | exact hn220_7) (.int .u32 0)).trans hx220_0
                   replace hx220_0 := (cell_far (p := ⟨gb219, 8, none⟩) (by first | (rw [add_block]; exact hn220_8) | (show (Addr.add _ _).block ≠ _; rw [add_block]; exact hn220_8) | exact hn220_8) (.int .u32 0)).trans hx220_0
                   replace hx220_0 := (cell_far (p := ⟨gb219, 9, none⟩) (by first | (rw [add_block]; exact hn220_9) | (show (Addr.add _ _).block ≠ _; rw [add_block]; exact hn220_9) | exact hn220_9) (.slice none 0 0)).trans hx220_0
                   replace hx220_0 := (cell_far (p := ⟨gb219, 10, none⟩) (by first | (rw [add_block]; exact hn220_10) | (show (Addr.add _ _).block ≠ _; rw [add_block]; exact hn220_10) | exact hn220_10) (.slice none 0 0)).trans hx220_0
                   clear hn220_0
                   clear hn220_1
                   clear hn220_2
                   clear hn220_3
                   clear hn220_4
                   clear hn220_5
                   clear hn220_6
                   clear hn220_7
                   clear hn220_8
                   clear hn220_9
                   clear hn220_10
                   replace p220 := eq_true p220
                   replace q220 := eq_true q220
                   have hnb60 := NB219_210.out
                   have hnc60 := NB210_219.out
                   have hnb61 := NB219_211.out
                   have hnc61 := NB211_219.out
                   have hcz62 := blk_cell BK219.out
                   have hfz62 := blk_frozen BK219.out
                   try go_wp2_with (first | ((with_reducible refine gate_store (t := 4) (p := 64) rfl ?_); refine store_event (t := 4) (p := 64) (v := ?vo_w63) (w1 := ((((((((((((w48.setCell ⟨gb219, 0, none⟩ (.int .u8 (rd l0_3 1))).setCell ⟨gb219, 1, none⟩ (.int .u16 (IntKind.u16.wrap (t216)))).setCell ⟨gb219, 2, none⟩ (.bool false)).setCell ⟨gb219, 3, none⟩ (.bool false)).setCell ⟨gb219, 4, none⟩ (.int .i64 0)).setCell ⟨gb219, 5, none⟩ (.int .u8 (rd l0_3 8))).setCell ⟨gb219, 6, none⟩ (.int .u8 (rd l0_3 9))).setCell ⟨gb219, 7, none⟩ (.int .u32 0)).setCell ⟨gb219, 8, none⟩ (.int .u32 0)).setCell ⟨gb219, 9, none⟩ (.slice none 0 0)).setCell ⟨gb219, 10, none⟩ (.slice none 0 0)).setCell ⟨gb219, 2, none⟩ (.bool ((((Int.tdiv (rd l0_3 6) 64) % 256) % 2) == 1)))) ?hg ?ho ?hn ?hr ?_; (case ho => rfl); (case hg => rfl); (case hn => rfl); (case hr => first | (go_simp; done) | (go_simp; rfl)); intro w63 hw; have n0_ : Aside0 (Kd.V (Kd.int .u8) 5 w63 w.heap.size (fun k_ => (P0_3_ k_ ∨ w.heap.size ≤ k_) ∧ k_ ≠ gb210 ∧ k_ ≠ gb211 ∧ k_ ≠ gb219) (.slice (some ad214) l0_3.length c0_3) l0_3) := ⟨(by rw [hw]; exact (by (with_reducible repeat (first | apply Kd.V_alloc | apply Kd.V_drewN | apply Kd.V_drew)); exact Kd.V_mono (Kd.V_far (Kd.V_far (Kd.V_far (Kd.V_far (Kd.V_far (Kd.V_far (Kd.V_far (Kd.V_far (Kd.V_far (Kd.V_far (Kd.V_far (Kd.V_far (Kd.V_mono HO_4.out (fun k_ hk => (⟨hk, hk.2.2.2⟩ : _ ∧ k_ ≠ gb219))) (fun _ hk => hk.2) _) (fun _ hk => hk.2) _) (fun _ hk => hk.2) _) (fun _ hk => hk.2) _) (fun _ hk => hk.2) _) (fun _ hk => hk.2) _) (fun _ hk => hk.2) _) (fun _ hk => hk.2) _) (fun _ hk => hk.2) _) (fun _ hk => hk.2) _) (fun _ hk => hk.2) _) (fun _ hk => hk.2) _) (fun _ hk => ⟨hk.1.1, ⟨hk.1.2.1, ⟨hk.1.2.2.1, hk.1.2.2.2⟩⟩⟩)))⟩; have n1_ : Aside0 (Kd.V (Kd.int .u8) 5 w63 w.heap.size (fun k_ => (P0_3_ k_ ∨ w.heap.size ≤ k_) ∧ k_ ≠ gb210 ∧ k_ ≠ gb211 ∧ k_ ≠ gb219) (.slice (some ad214) l0_3.length c0_3) l0_3) := ⟨(by rw [hw]; exact (by (with_reducible repeat (first | apply Kd.V_alloc | apply Kd.V_drewN | apply Kd.V_drew)); exact Kd.V_mono (Kd.V_far (Kd.V_far (Kd.V_far (Kd.V_far (Kd.V_far (Kd.V_far (Kd.V_far (Kd.V_far (Kd.V_far (Kd.V_far (Kd.V_far (Kd.V_far (Kd.V_mono HO_211003.out (fun k_ hk => (⟨hk, hk.2.2.2⟩ : _ ∧ k_ ≠ gb219))) (fun _ hk => hk.2) _) (fun _ hk => hk.2) _) (fun _ hk => hk.2) _) (fun _ hk => hk.2) _) (fun _ hk => hk.2) _) (fun _ hk => hk.2) _) (fun _ hk => hk.2) _) (fun _ hk => hk.2) _) (fun _ hk => hk.2) _) (fun _ hk => hk.2) _) (fun _ hk => hk.2) _) (fun _ hk => hk.2) _) (fun _ hk => ⟨hk.1.1, ⟨hk.1.2.1, ⟨hk.1.2.2.1, hk.1.2.2.2⟩⟩⟩)))⟩; have n2_ : Aside0 (w63.heap[gb210]? = some (.cells #[.int .u8 a0_0, .int .u8 a0_1, .int .u32 a0_2, .slice (some ad214) l0_3.length c0_3] 25 (0, 0))) := ⟨(by rw [hw]; exact (by (with_reducible repeat (first | refine blk_drewN ?_ _ | refine blk_drew ?_ | refine blk_alloc ?_ _)); refine blk_far ?_ NB210_219.out _; (with_reducible repeat (first | refine blk_drewN ?_ _ | refine blk_drew ?_ | refine blk_alloc ?_ _)); refine blk_far ?_ NB210_219.out _; (with_reducible repeat (first | refine blk_drewN ?_ _ | refine blk_drew ?_ | refine blk_alloc ?_ _)); refine blk_far ?_ NB210_219.out _; (with_reducible repeat (first | refine blk_drewN ?_ _ | refine blk_drew ?_ | refine blk_alloc ?_ _)); refine blk_far ?_ NB210_219.out _; (with_reducible repeat (first | refine blk_drewN ?_ _ | refine blk_drew ?_ | refine blk_alloc ?_ _)); refine blk_far ?_ NB210_219.out _; (with_reducible repeat (first | refine blk_drewN ?_ _ | refine blk_drew ?_ | refine blk_alloc ?_ _)); refine blk_far ?_ NB210_219.out _; (with_reducible repeat (first | refine blk_drewN ?_ _ | refine blk_drew ?_ | refine blk_alloc ?_ _)); refine blk_far ?_ NB210_219.out _; (with_reducible repeat (first | refine blk_drewN ?_ _ | refine blk_drew ?_ | refine blk_alloc ?_ _)); refine blk_far ?_ NB210_219.out _; (with_reducible repeat (first | refine blk_drewN ?_ _ | refine blk_drew ?_ | refine blk_alloc ?_ _)); refine blk_far ?_ NB210_219.out _; (with_reducible repeat (first | refine blk_drewN ?_ _ | refine blk_drew ?_ | refine blk_alloc ?_ _)); refine blk_far ?_ NB210_219.out _; (with_reducible repeat (first | refine blk_drewN ?_ _ | refine blk_drew ?_ | refine blk_alloc ?_ _)); refine blk_far ?_ NB210_219.out _; (with_reducible repeat (first | refine blk_drewN ?_ _ | refine blk_drew ?_ | refine blk_alloc ?_ _)); refine blk_far ?_ NB210_219.out _; (with_reducible repeat (first | refine blk_drewN ?_ _ | refine blk_drew ?_ | refine blk_alloc ?_ _)); exact BK210.out))⟩; have n3_ : Aside0 (w63.heap[gb211]? = some (.cells #[.int .u8 0, .int .u16 0, .bool false, .bool false, .int .i64 0, .int .u8 0, .int .u8 0, .int .u32 0, .int .u32 0, .slice none 0 0, .slice none 0 0] 37 (0, 0))) := ⟨(by rw [hw]; exact (by (with_reducible repeat (first | refine blk_drewN ?_ _ | refine blk_drew ?_ | refine blk_alloc ?_ _)); refine blk_far ?_ NB211_219.out _; (with_reducible repeat (first | refine blk_drewN ?_ _ | refine blk_drew ?_ | refine blk_alloc ?_ _)); refine blk_far ?_ NB211_219.out _; (with_reducible repeat (first | refine blk_drewN ?_ _ | refine blk_drew ?_ | refine blk_alloc ?_ _)); refine blk_far ?_ NB211_219.out _; (with_reducible repeat (first | refine blk_drewN ?_ _ | refine blk_drew ?_ | refine blk_alloc ?_ _)); refine blk_far ?_ NB211_219.out _; (with_reducible repeat (first | refine blk_drewN ?_ _ | refine blk_drew ?_ | refine blk_alloc ?_ _)); refine blk_far ?_ NB211_219.out _; (with_reducible repeat (first | refine blk_drewN ?_ _ | refine blk_drew ?_ | refine blk_alloc ?_ _)); refine blk_far ?_ NB211_219.out _; (with_reducible repeat (first | refine blk_drewN ?_ _ | refine blk_drew ?_ | refine blk_alloc ?_ _)); refine blk_far ?_ NB211_219.out _; (with_reducible repeat (first | refine blk_drewN ?_ _ | refine blk_drew ?_ | refine blk_alloc ?_ _)); refine blk_far ?_ NB211_219.out _; (with_reducible repeat (first | refine blk_drewN ?_ _ | refine blk_drew ?_ | refine blk_alloc ?_ _)); refine blk_far ?_ NB211_219.out _; (with_reducible repeat (first | refine blk_drewN ?_ _ | refine blk_drew ?_ | refine blk_alloc ?_ _)); refine blk_far ?_ NB211_219.out _; (with_reducible repeat (first | refine blk_drewN ?_ _ | refine blk_drew ?_ | refine blk_alloc ?_ _)); refine blk_far ?_ NB211_219.out _; (with_reducible repeat (first | refine blk_drewN ?_ _ | refine blk_drew ?_ | refine blk_alloc ?_ _)); refine blk_far ?_ NB211_219.out _; (with_reducible repeat (first | refine blk_drewN ?_ _ | refine blk_drew ?_ | refine blk_alloc ?_ _)); exact BK211.out))⟩; have n4_ : Aside0 (w63.heap[gb219]? = some (.cells #[.int .u8 (rd l0_3 1), .int .u16 (IntKind.u16.wrap (t216)), .bool ((((Int.tdiv (rd l0_3 6) 64) % 256) % 2) == 1), .bool false, .int .i64 0, .int .u8 (rd l0_3 8), .int .u8 (rd l0_3 9), .int .u32 0, .int .u32 0, .slice none 0 0, .slice none 0 0] 37 (0, 0))) := ⟨(by rw [hw]; exact (by (with_reducible repeat (first | refine blk_drewN ?_ _ | refine blk_drew ?_ | refine blk_alloc ?_ _)); refine blk_put (cs := #[.int .u8 (rd l0_3 1), .int .u16 (IntKind.u16.wrap (t216)), .bool false, .bool false, .int .i64 0, .int .u8 (rd l0_3 8), .int .u8 (rd l0_3 9), .int .u32 0, .int .u32 0, .slice none 0 0, .slice none 0 0]) ?_ 2 _ rfl; (with_reducible repeat (first | refine blk_drewN ?_ _ | refine blk_drew ?_ | refine blk_alloc ?_ _)); refine blk_put (cs := #[.int .u8 (rd l0_3 1), .int .u16 (IntKind.u16.wrap (t216)), .bool false, .bool false, .int .i64 0, .int .u8 (rd l0_3 8), .int .u8 (rd l0_3 9), .int .u32 0, .int .u32 0, .slice none 0 0, .slice none 0 0]) ?_ 10 _ rfl; (with_reducible repeat (first | refine blk_drewN ?_ _ | refine blk_drew ?_ | refine blk_alloc ?_ _)); refine blk_put (cs := #[.int .u8 (rd l0_3 1), .int .u16 (IntKind.u16.wrap (t216)), .bool false, .bool false, .int .i64 0, .int .u8 (rd l0_3 8), .int .u8 (rd l0_3 9), .int .u32 0, .int .u32 0, .slice none 0 0, .slice none 0 0]) ?_ 9 _ rfl; (with_reducible repeat (first | refine blk_drewN ?_ _ | refine blk_drew ?_ | refine blk_alloc ?_ _)); refine blk_put (cs := #[.int .u8 (rd l0_3 1), .int .u16 (IntKind.u16.wrap (t216)), .bool false, .bool false, .int .i64 0, .int .u8 (rd l0_3 8), .int .u8 (rd l0_3 9), .int .u32 0, .int .u32 0, .slice none 0 0, .slice none 0 0]) ?_ 8 _ rfl; (with_reducible repeat (first | refine blk_drewN ?_ _ | refine blk_drew ?_ | refine blk_alloc ?_ _)); refine blk_put (cs := #[.int .u8 (rd l0_3 1), .int .u16 (IntKind.u16.wrap (t216)), .bool false, .bool false, .int .i64 0, .int .u8 (rd l0_3 8), .int .u8 (rd l0_3 9), .int .u32 0, .int .u32 0, .slice none 0 0, .slice none 0 0]) ?_ 7 _ rfl; (with_reducible repeat (first | refine blk_drewN ?_ _ | refine blk_drew ?_ | refine blk_alloc ?_ _)); refine blk_put (cs := #[.int .u8 (rd l0_3 1), .int .u16 (IntKind.u16.wrap (t216)), .bool false, .bool false, .int .i64 0, .int .u8 (rd l0_3 8), .int .u8 0, .int .u32 0, .int .u32 0, .slice none 0 0, .slice none 0 0]) ?_ 6 _ rfl; (with_reducible repeat (first | refine blk_drewN ?_ _ | refine blk_drew ?_ | refine blk_alloc ?_ _)); refine blk_put (cs := #[.int .u8 (rd l0_3 1), .int .u16 (IntKind.u16.wrap (t216)), .bool false, .bool false, .int .i64 0, .int .u8 0, .int .u8 0, .int .u32 0, .int .u32 0, .slice none 0 0, .slice none 0 0]) ?_ 5 _ rfl; (with_reducible repeat (first | refine blk_drewN ?_ _ | refine blk_drew ?_ | refine blk_alloc ?_ _)); refine blk_put (cs := #[.int .u8 (rd l0_3 1), .int .u16 (IntKind.u16.wrap (t216)), .bool false, .bool false, .int .i64 0, .int .u8 0, .int .u8 0, .int .u32 0, .int .u32 0, .slice none 0 0, .slice none 0 0]) ?_ 4 _ rfl; (with_reducible repeat (first | refine blk_drewN ?_ _ | refine blk_drew ?_ | refine blk_alloc ?_ _)); refine blk_put (cs := #[.int .u8 (rd l0_3 1), .int .u16 (IntKind.u16.wrap (t216)), .bool false, .bool false, .int .i64 0, .int .u8 0, .int .u8 0, .int .u32 0, .int .u32 0, .slice none 0 0, .slice none 0 0]) ?_ 3 _ rfl; (with_reducible repeat (first | refine blk_drewN ?_ _ | refine blk_drew ?_ | refine blk_alloc ?_ _)); refine blk_put (cs := #[.int .u8 (rd l0_3 1), .int .u16 (IntKind.u16.wrap (t216)), .bool false, .bool false, .int .i64 0, .int .u8 0, .int .u8 0, .int .u32 0, .int .u32 0, .slice none 0 0, .slice none 0 0]) ?_ 2 _ rfl; (with_reducible repeat (first | refine blk_drewN ?_ _ | refine blk_drew ?_ | refine blk_alloc ?_ _)); refine blk_put (cs := #[.int .u8 (rd l0_3 1), .int .u16 0, .bool false, .bool false, .int .i64 0, .int .u8 0, .int .u8 0, .int .u32 0, .int .u32 0, .slice none 0 0, .slice none 0 0]) ?_ 1 _ rfl; (with_reducible repeat (first | refine blk_drewN ?_ _ | refine blk_drew ?_ | refine blk_alloc ?_ _)); refine blk_put (cs := #[.int .u8 0, .int .u16 0, .bool false, .bool false, .int .i64 0, .int .u8 0, .int .u8 0, .int .u32 0, .int .u32 0, .slice none 0 0, .slice none 0 0]) ?_ 0 _ rfl; (with_reducible repeat (first | refine blk_drewN ?_ _ | refine blk_drew ?_ | refine blk_alloc ?_ _)); exact BK219.out))⟩; have n5_ : Aside0 (Below w.heap.size w w63) := ⟨(by rw [hw]; exact (by repeat (first | (with_reducible first | exact HB.out | apply below_alloc | apply pw_below_drewN | apply below_drew1 | refine below_set ?_ GE210.out | refine below_set ?_ GE211.out | refine below_set ?_ GE219.out) | exact HB.out)))⟩; clear hw; clear HO_4; clear HO_211003; clear BK210; clear BK211; clear BK219; clear HB; have HO_4 := n0_; have HO_211003 := n1_; have BK210 := n2_; have BK211 := n3_; have BK219 := n4_; have HB := n5_; clear n0_ n1_ n2_ n3_ n4_ n5_; have p221 : 0 ≤ (6 : Int) := (by omega); have q221 : 6 < (l0_3.length : Int) := of_decide_eq_true (by first | (with_reducible assumption) | assumption); obtain ⟨ad221, e221, hx221_0⟩ := Kd.at_int (Kd.V_reads' HO_4.out).2.2 6 p221 q221; obtain rfl : ad214 = ad221 := (by injection e221); (try simp only [show (6 : Int).toNat = 6 from rfl, Nat.reduceMul, Nat.reduceEqDiff, Go.Addr.add, ↓reduceIte] at hx221_0); have qi221 : (6 < l0_3.length) = True := eq_true (by omega); (try rw [show ((6 : Int)).toNat = 6 from rfl] at hx221_0); replace p221 := eq_true p221; replace q221 := eq_true q221; have hcz64 := blk_cell BK219.out; have hfz64 := blk_frozen BK219.out; have hfz64_10 := blk_frozen BK219.out 10) | ((with_reducible refine gate_store (t := 4) (p := 71) rfl ?_); refine store_event (t := 4) (p := 71) (v := ?vo_w65) (w1 := (w63.setCell ⟨gb219, 3, none⟩ (.bool ((((Int.tdiv (rd l0_3 6) 32) % 256) % 2) == 1)))) ?hg ?ho ?hn ?hr ?_; (case ho => rfl); (case hg => rfl); (case hn => rfl); (case hr => first | (go_simp; done) | (go_simp; rfl)); intro w65 hw; have n0_ : Aside0 (Kd.V (Kd.int .u8) 5 w65 w.heap.size (fun k_ => (P0_3_ k_ ∨ w.heap.size ≤ k_) ∧ k_ ≠ gb210 ∧ k_ ≠ gb211 ∧ k_ ≠ gb219) (.slice (some ad214) l0_3.length c0_3) l0_3) := ⟨(by rw [hw]; exact (by (with_reducible repeat (first | apply Kd.V_alloc | apply Kd.V_drewN | apply Kd.V_drew)); exact Kd.V_mono (Kd.V_far (Kd.V_mono HO_4.out (fun k_ hk => (⟨hk, hk.2.2.2⟩ : _ ∧ k_ ≠ gb219))) (fun _ hk => hk.2) _) (fun _ hk => ⟨hk.1.1, ⟨hk.1.2.1, ⟨hk.1.2.2.1, hk.1.2.2.2⟩⟩⟩)))⟩; have n1_ : Aside0 (Kd.V (Kd.int .u8) 5 w65 w.heap.size (fun k_ => (P0_3_ k_ ∨ w.heap.size ≤ k_) ∧ k_ ≠ gb210 ∧ k_ ≠ gb211 ∧ k_ ≠ gb219) (.slice (some ad214) l0_3.length c0_3) l0_3) := ⟨(by rw [hw]; exact (by (with_reducible repeat (first | apply Kd.V_alloc | apply Kd.V_drewN | apply Kd.V_drew)); exact Kd.V_mono (Kd.V_far (Kd.V_mono HO_211003.out (fun k_ hk => (⟨hk, hk.2.2.2⟩ : _ ∧ k_ ≠ gb219))) (fun _ hk => hk.2) _) (fun _ hk => ⟨hk.1.1, ⟨hk.1.2.1, ⟨hk.1.2.2.1, hk.1.2.2.2⟩⟩⟩)))⟩; have n2_ : Aside0 (w65.heap[gb210]? = some (.cells #[.int .u8 a0_0, .int .u8 a0_1, .int .u32 a0_2, .slice (some ad214) l0_3.length c0_3] 25 (0, 0))) := ⟨(by rw [hw]; exact (by (with_reducible repeat (first | refine blk_drewN ?_ _ | refine blk_drew ?_ | refine blk_alloc ?_ _)); refine blk_far ?_ NB210_219.out _; (with_reducible repeat (first | refine blk_drewN ?_ _ | refine blk_drew ?_ | refine blk_alloc ?_ _)); exact BK210.out))⟩; have n3_ : Aside0 (w65.heap[gb211]? = some (.cells #[.int .u8 0, .int .u16 0, .bool false, .bool false, .int .i64 0, .int .u8 0, .int .u8 0, .int .u32 0, .int .u32 0, .slice none 0 0, .slice none 0 0] 37 (0, 0))) := ⟨(by rw [hw]; exact (by (with_reducible repeat (first | refine blk_drewN ?_ _ | refine blk_drew ?_ | refine blk_alloc ?_ _)); refine blk_far ?_ NB211_219.out _; (with_reducible repeat (first | refine blk_drewN ?_ _ | refine blk_drew ?_ | refine blk_alloc ?_ _)); exact BK211.out))⟩; have n4_ : Aside0 (w65.heap[gb219]? = some (.cells #[.int .u8 (rd l0_3 1), .int .u16 (IntKind.u16.wrap (t216)), .bool ((((Int.tdiv (rd l0_3 6) 64) % 256) % 2) == 1), .bool ((((Int.tdiv (rd l0_3 6) 32) % 256) % 2) == 1), .int .i64 0, .int .u8 (rd l0_3 8), .int .u8 (rd l0_3 9), .int .u32 0, .int .u32 0, .slice none 0 0, .slice none 0 0] 37 (0, 0))) := ⟨(by rw [hw]; exact (by (with_reducible repeat (first | refine blk_drewN ?_ _ | refine blk_drew ?_ | refine blk_alloc ?_ _)); refine blk_put (cs := #[.int .u8 (rd l0_3 1), .int .u16 (IntKind.u16.wrap (t216)), .bool ((((Int.tdiv (rd l0_3 6) 64) % 256) % 2) == 1), .bool false, .int .i64 0, .int .u8 (rd l0_3 8), .int .u8 (rd l0_3 9), .int .u32 0, .int .u32 0, .slice none 0 0, .slice none 0 0]) ?_ 3 _ rfl; (with_reducible repeat (first | refine blk_drewN ?_ _ | refine blk_drew ?_ | refine blk_alloc ?_ _)); exact BK219.out))⟩; have n5_ : Aside0 (Below w.heap.size w w65) := ⟨(by rw [hw]; exact (by repeat (first | (with_reducible first | exact HB.out | apply below_alloc | apply pw_below_drewN | apply below_drew1 | refine below_set ?_ GE210.out | refine below_set ?_ GE211.out | refine below_set ?_ GE219.out) | exact HB.out)))⟩; clear hw; clear HO_4; clear HO_211003; clear BK210; clear BK211; clear BK219; clear HB; have HO_4 := n0_; have HO_211003 := n1_; have BK210 := n2_; have BK211 := n3_; have BK219 := n4_; have HB := n5_; clear n0_ n1_ n2_ n3_ n4_ n5_) | ((with_reducible refine gate_callee (f := 50) rfl ?_); refine goesL_ (some 73) rfl rfl Try.func50 (by kernel_rfl) rfl #[.slice (some ad214) l0_3.length c0_3, .int .i64 6, .int .i64 2] rfl (by (try simp only [List.map_toArray, List.map_cons, List.map_nil]); first | done | rfl | (simp only [List.length_drop, List.length_take]; rfl) | (go_simp; done) | (go_simp; omega)) ?_; (with_reducible refine (towroperef07_number.calls kj19 _ _ l0_3 6 2 t222 _ ?side1 ?side2 A37.out).mono ?_); (case side1 => repeat (first | exact (Kd.V_reads' HO_4.out).2.2 | (with_reducible refine Kd.C_alloc ?_ _) | (with_reducible refine Kd.C_drewN ?_ _) | (with_reducible refine Kd.C_drew ?_))); (case side2 => exact (Kd.V_reads' HO_4.out).2.1); rintro e w' ⟨rfl, ⟨nd, rfl⟩⟩; refine ⟨_, rfl, ?_⟩; (try (rw [drewN_self w65]; generalize hq_ : World.drewN w65 _ = w65; have n0_ : Aside0 (Kd.V (Kd.int .u8) 5 w65 w.heap.size (fun k_ => (P0_3_ k_ ∨ w.heap.size ≤ k_) ∧ k_ ≠ gb210 ∧ k_ ≠ gb211 ∧ k_ ≠ gb219) (.slice (some ad214) l0_3.length c0_3) l0_3) := ⟨by rw [← hq_]; exact (by (with_reducible repeat (first | apply Kd.V_alloc | apply Kd.V_drewN | apply Kd.V_drew)); exact HO_211003.out)⟩; have n1_ : Aside0 (Kd.V (Kd.int .u8) 5 w65 w.heap.size (fun k_ => (P0_3_ k_ ∨ w.heap.size ≤ k_) ∧ k_ ≠ gb210 ∧ k_ ≠ gb211 ∧ k_ ≠ gb219) (.slice (some ad214) l0_3.length c0_3) l0_3) := ⟨by rw [← hq_]; exact (by (with_reducible repeat (first | apply Kd.V_alloc | apply Kd.V_drewN | apply Kd.V_drew)); exact HO_4.out)⟩; have n2_ : Aside0 (w65.heap[gb210]? = some (.cells #[.int .u8 a0_0, .int .u8 a0_1, .int .u32 a0_2, .slice (some ad214) l0_3.length c0_3] 25 (0, 0))) := ⟨by rw [← hq_]; exact (by (with_reducible repeat (first | refine blk_drewN ?_ _ | refine blk_drew ?_ | refine blk_alloc ?_ _)); exact BK210.out)⟩; have n3_ : Aside0 (w65.heap[gb211]? = some (.cells #[.int .u8 0, .int .u16 0, .bool false, .bool false, .int .i64 0, .int .u8 0, .int .u8 0, .int .u32 0, .int .u32 0, .slice none 0 0, .slice none 0 0] 37 (0, 0))) := ⟨by rw [← hq_]; exact (by (with_reducible repeat (first | refine blk_drewN ?_ _ | refine blk_drew ?_ | refine blk_alloc ?_ _)); exact BK211.out)⟩; have n4_ : Aside0 (w65.heap[gb219]? = some (.cells #[.int .u8 (rd l0_3 1), .int .u16 (IntKind.u16.wrap (t216)), .bool ((((Int.tdiv (rd l0_3 6) 64) % 256) % 2) == 1), .bool ((((Int.tdiv (rd l0_3 6) 32) % 256) % 2) == 1), .int .i64 0, .int .u8 (rd l0_3 8), .int .u8 (rd l0_3 9), .int .u32 0, .int .u32 0, .slice none 0 0, .slice none 0 0] 37 (0, 0))) := ⟨by rw [← hq_]; exact (by (with_reducible repeat (first | refine blk_drewN ?_ _ | refine blk_drew ?_ | refine blk_alloc ?_ _)); exact BK219.out)⟩; have n5_ : Aside0 (Below w.heap.size w w65) := ⟨by rw [← hq_]; exact (by repeat (first | (with_reducible first | exact HB.out | apply below_alloc | apply pw_below_drewN | apply below_drew1 | refine below_set ?_ GE210.out | refine below_set ?_ GE211.out | refine below_set ?_ GE219.out) | exact HB.out))⟩; clear HO_211003 HO_4 BK210 BK211 BK219 HB hq_; have HO_211003 := n0_; have HO_4 := n1_; have BK210 := n2_; have BK211 := n3_; have BK219 := n4_; have HB := n5_; clear n0_ n1_ n2_ n3_ n4_ n5_)); have hcz66 := blk_cell BK219.out; have hfz66 := blk_frozen BK219.out; have hfz66_10 := blk_frozen BK219.out 10) | ((with_reducible refine gate_store (t := 3) (p := 75) rfl ?_); refine store_event (t := 3) (p := 75) (v := ?vo_w67) (w1 := (w65.setCell ⟨gb219, 4, none⟩ (.int .i64 (Int.tmod t222 8192)))) ?hg ?ho ?hn ?hr ?_; (case ho => rfl); (case hg => rfl); (case hn => rfl); (case hr => first | (go_simp; done) | (go_simp; rfl)); intro w67 hw; have n0_ : Aside0 (Kd.V (Kd.int .u8) 5 w67 w.heap.size (fun k_ => (P0_3_ k_ ∨ w.heap.size ≤ k_) ∧ k_ ≠ gb210 ∧ k_ ≠ gb211 ∧ k_ ≠ gb219) (.slice (some ad214) l0_3.length c0_3) l0_3) := ⟨(by rw [hw]; exact (by (with_reducible repeat (first | apply Kd.V_alloc | apply Kd.V_drewN | apply Kd.V_drew)); exact Kd.V_mono (Kd.V_far (Kd.V_mono HO_4.out (fun k_ hk => (⟨hk, hk.2.2.2⟩ : _ ∧ k_ ≠ gb219))) (fun _ hk => hk.2) _) (fun _ hk => ⟨hk.1.1, ⟨hk.1.2.1, ⟨hk.1.2.2.1, hk.1.2.2.2⟩⟩⟩)))⟩; have n1_ : Aside0 (Kd.V (Kd.int .u8) 5 w67 w.heap.size (fun k_ => (P0_3_ k_ ∨ w.heap.size ≤ k_) ∧ k_ ≠ gb210 ∧ k_ ≠ gb211 ∧ k_ ≠ gb219) (.slice (some ad214) l0_3.length c0_3) l0_3) := ⟨(by rw [hw]; exact (by (with_reducible repeat (first | apply Kd.V_alloc | apply Kd.V_drewN | apply Kd.V_drew)); exact Kd.V_mono (Kd.V_far (Kd.V_mono HO_211003.out (fun k_ hk => (⟨hk, hk.2.2.2⟩ : _ ∧ k_ ≠ gb219))) (fun _ hk => hk.2) _) (fun _ hk => ⟨hk.1.1, ⟨hk.1.2.1, ⟨hk.1.2.2.1, hk.1.2.2.2⟩⟩⟩)))⟩; have n2_ : Aside0 (w67.heap[gb210]? = some (.cells #[.int .u8 a0_0, .int .u8 a0_1, .int .u32 a0_2, .slice (some ad214) l0_3.length c0_3] 25 (0, 0))) := ⟨(by rw [hw]; exact (by (with_reducible repeat (first | refine blk_drewN ?_ _ | refine blk_drew ?_ | refine blk_alloc ?_ _)); refine blk_far ?_ NB210_219.out _; (with_reducible repeat (first | refine blk_drewN ?_ _ | refine blk_drew ?_ | refine blk_alloc ?_ _)); exact BK210.out))⟩; have n3_ : Aside0 (w67.heap[gb211]? = some (.cells #[.int .u8 0, .int .u16 0, .bool false, .bool false, .int .i64 0, .int .u8 0, .int .u8 0, .int .u32 0, .int .u32 0, .slice none 0 0, .slice none 0 0] 37 (0, 0))) := ⟨(by rw [hw]; exact (by (with_reducible repeat (first | refine blk_drewN ?_ _ | refine blk_drew ?_ | refine blk_alloc ?_ _)); refine blk_far ?_ NB211_219.out _; (with_reducible repeat (first | refine blk_drewN ?_ _ | refine blk_drew ?_ | refine blk_alloc ?_ _)); exact BK211.out))⟩; have n4_ : Aside0 (w67.heap[gb219]? = some (.cells #[.int .u8 (rd l0_3 1), .int .u16 (IntKind.u16.wrap (t216)), .bool ((((Int.tdiv (rd l0_3 6) 64) % 256) % 2) == 1), .bool ((((Int.tdiv (rd l0_3 6) 32) % 256) % 2) == 1), .int .i64 (Int.tmod t222 8192), .int .u8 (rd l0_3 8), .int .u8 (rd l0_3 9), .int .u32 0, .int .u32 0, .slice none 0 0, .slice none 0 0] 37 (0, 0))) := ⟨(by rw [hw]; exact (by (with_reducible repeat (first | refine blk_drewN ?_ _ | refine blk_drew ?_ | refine blk_alloc ?_ _)); refine blk_put (cs := #[.int .u8 (rd l0_3 1), .int .u16 (IntKind.u16.wrap (t216)), .bool ((((Int.tdiv (rd l0_3 6) 64) % 256) % 2) == 1), .bool ((((Int.tdiv (rd l0_3 6) 32) % 256) % 2) == 1), .int .i64 0, .int .u8 (rd l0_3 8), .int .u8 (rd l0_3 9), .int .u32 0, .int .u32 0, .slice none 0 0, .slice none 0 0]) ?_ 4 _ rfl; (with_reducible repeat (first | refine blk_drewN ?_ _ | refine blk_drew ?_ | refine blk_alloc ?_ _)); exact BK219.out))⟩; have n5_ : Aside0 (Below w.heap.size w w67) := ⟨(by rw [hw]; exact (by repeat (first | (with_reducible first | exact HB.out | apply below_alloc | apply pw_below_drewN | apply below_drew1 | refine below_set ?_ GE210.out | refine below_set ?_ GE211.out | refine below_set ?_ GE219.out) | exact HB.out)))⟩; clear hw; clear HO_4; clear HO_211003; clear BK210; clear BK211; clear BK219; clear HB; have HO_4 := n0_; have HO_211003 := n1_; have BK210 := n2_; have BK211 := n3_; have BK219 := n4_; have HB := n5_; clear n0_ n1_ n2_ n3_ n4_ n5_) | ((with_reducible refine gate_callee (f := 50) rfl ?_); refine goesL_ (some 77) rfl rfl Try.func50 (by kernel_rfl) rfl #[.slice (some ad214) l0_3.length c0_3, .int .i64 12, .int .i64 4] rfl (by (try simp only [List.map_toArray, List.map_cons, List.map_nil]); first | done | rfl | (simp only [List.length_drop, List.length_take]; rfl) | (go_simp; done) | (go_simp; omega)) ?_; (with_reducible refine (towroperef07_number.calls kj19 _ _ l0_3 12 4 t223 _ ?side1 ?side2 A38.out).mono ?_); (case side1 => repeat (first | exact (Kd.V_reads' HO_4.out).2.2 | (with_reducible refine Kd.C_alloc ?_ _) | (with_reducible refine Kd.C_drewN ?_ _) | (with_reducible refine Kd.C_drew ?_))); (case side2 => exact (Kd.V_reads' HO_4.out).2.1); rintro e w' ⟨rfl, ⟨nd, rfl⟩⟩; refine ⟨_, rfl, ?_⟩; (try (rw [drewN_self w67]; generalize hq_ : World.drewN w67 _ = w67; have n0_ : Aside0 (Kd.V (Kd.int .u8) 5 w67 w.heap.size (fun k_ => (P0_3_ k_ ∨ w.heap.size ≤ k_) ∧ k_ ≠ gb210 ∧ k_ ≠ gb211 ∧ k_ ≠ gb219) (.slice (some ad214) l0_3.length c0_3) l0_3) := ⟨by rw [← hq_]; exact (by (with_reducible repeat (first | apply Kd.V_alloc | apply Kd.V_drewN | apply Kd.V_drew)); exact HO_211003.out)⟩; have n1_ : Aside0 (Kd.V (Kd.int .u8) 5 w67 w.heap.size (fun k_ => (P0_3_ k_ ∨ w.heap.size ≤ k_) ∧ k_ ≠ gb210 ∧ k_ ≠ gb211 ∧ k_ ≠ gb219) (.slice (some ad214) l0_3.length c0_3) l0_3) := ⟨by rw [← hq_]; exact (by (with_reducible repeat (first | apply Kd.V_alloc | apply Kd.V_drewN | apply Kd.V_drew)); exact HO_4.out)⟩; have n2_ : Aside0 (w67.heap[gb210]? = some (.cells #[.int .u8 a0_0, .int .u8 a0_1, .int .u32 a0_2, .slice (some ad214) l0_3.length c0_3] 25 (0, 0))) := ⟨by rw [← hq_]; exact (by (with_reducible repeat (first | refine blk_drewN ?_ _ | refine blk_drew ?_ | refine blk_alloc ?_ _)); exact BK210.out)⟩; have n3_ : Aside0 (w67.heap[gb211]? = some (.cells #[.int .u8 0, .int .u16 0, .bool false, .bool false, .int .i64 0, .int .u8 0, .int .u8 0, .int .u32 0, .int .u32 0, .slice none 0 0, .slice none 0 0] 37 (0, 0))) := ⟨by rw [← hq_]; exact (by (with_reducible repeat (first | refine blk_drewN ?_ _ | refine blk_drew ?_ | refine blk_alloc ?_ _)); exact BK211.out)⟩; have n4_ : Aside0 (w67.heap[gb219]? = some (.cells #[.int .u8 (rd l0_3 1), .int .u16 (IntKind.u16.wrap (t216)), .bool ((((Int.tdiv (rd l0_3 6) 64) % 256) % 2) == 1), .bool ((((Int.tdiv (rd l0_3 6) 32) % 256) % 2) == 1), .int .i64 (Int.tmod t222 8192), .int .u8 (rd l0_3 8), .int .u8 (rd l0_3 9), .int .u32 0, .int .u32 0, .slice none 0 0, .slice none 0 0] 37 (0, 0))) := ⟨by rw [← hq_]; exact (by (with_reducible repeat (first | refine blk_drewN ?_ _ | refine blk_drew ?_ | refine blk_alloc ?_ _)); exact BK219.out)⟩; have n5_ : Aside0 (Below w.heap.size w w67) := ⟨by rw [← hq_]; exact (by repeat (first | (with_reducible first | exact HB.out | apply below_alloc | apply pw_below_drewN | apply below_drew1 | refine below_set ?_ GE210.out | refine below_set ?_ GE211.out | refine below_set ?_ GE219.out) | exact HB.out))⟩; clear HO_211003 HO_4 BK210 BK211 BK219 HB hq_; have HO_211003 := n0_; have HO_4 := n1_; have BK210 := n2_; have BK211 := n3_; have BK219 := n4_; have HB := n5_; clear n0_ n1_ n2_ n3_ n4_ n5_))) | ((with_reducible refine gate_callee (f := 50) rfl ?_); refine goesL_ (some 80) rfl rfl Try.func50 (by kernel_rfl) rfl #[.slice (some ad214) l0_3.length c0_3, .int .i64 16, .int .i64 4] rfl (by (try simp only [List.map_toArray, List.map_cons, List.map_nil]); first | done | rfl | (simp only [List.length_drop, List.length_take]; rfl) | (go_simp; done) | (go_simp; omega)) ?_; (with_reducible refine (towroperef07_number.calls kj19 _ _ l0_3 16 4 t224 _ ?side1 ?side2 A39.out).mono ?_); (case side1 => repeat (first | exact (Kd.V_reads' HO_4.out).2.2 | (with_reducible refine Kd.C_alloc ?_ _) | (with_reducible refine Kd.C_drewN ?_ _) | (with_reducible refine Kd.C_drew ?_))); (case side2 => exact (Kd.V_reads' HO_4.out).2.1); rintro e w' ⟨rfl, ⟨nd, rfl⟩⟩; refine ⟨_, rfl, ?_⟩; (try (rw [drewN_self w67]; generalize hq_ : World.drewN w67 _ = w67; have n0_ : Aside0 (Kd.V (Kd.int .u8) 5 w67 w.heap.size (fun k_ => (P0_3_ k_ ∨ w.heap.size ≤ k_) ∧ k_ ≠ gb210 ∧ k_ ≠ gb211 ∧ k_ ≠ gb219) (.slice (some ad214) l0_3.length c0_3) l0_3) := ⟨by rw [← hq_]; exact (by (with_reducible repeat (first | apply Kd.V_alloc | apply Kd.V_drewN | apply Kd.V_drew)); exact HO_211003.out)⟩; have n1_ : Aside0 (Kd.V (Kd.int .u8) 5 w67 w.heap.size (fun k_ => (P0_3_ k_ ∨ w.heap.size ≤ k_) ∧ k_ ≠ gb210 ∧ k_ ≠ gb211 ∧ k_ ≠ gb219) (.slice (some ad214) l0_3.length c0_3) l0_3) := ⟨by rw [← hq_]; exact (by (with_reducible repeat (first | apply Kd.V_alloc | apply Kd.V_drewN | apply Kd.V_drew)); exact HO_4.out)⟩; have n2_ : Aside0 (w67.heap[gb210]? = some (.cells #[.int .u8 a0_0, .int .u8 a0_1, .int .u32 a0_2, .slice (some ad214) l0_3.length c0_3] 25 (0, 0))) := ⟨by rw [← hq_]; exact (by (with_reducible repeat (first | refine blk_drewN ?_ _ | refine blk_drew ?_ | refine blk_alloc ?_ _)); exact BK210.out)⟩; have n3_ : Aside0 (w67.heap[gb211]? = some (.cells #[.int .u8 0, .int .u16 0, .bool false, .bool false, .int .i64 0, .int .u8 0, .int .u8 0, .int .u32 0, .int .u32 0, .slice none 0 0, .slice none 0 0] 37 (0, 0))) := ⟨by rw [← hq_]; exact (by (with_reducible repeat (first | refine blk_drewN ?_ _ | refine blk_drew ?_ | refine blk_alloc ?_ _)); exact BK211.out)⟩; have n4_ : Aside0 (w67.heap[gb219]? = some (.cells #[.int .u8 (rd l0_3 1), .int .u16 (IntKind.u16.wrap (t216)), .bool ((((Int.tdiv (rd l0_3 6) 64) % 256) % 2) == 1), .bool ((((Int.tdiv (rd l0_3 6) 32) % 256) % 2) == 1), .int .i64 (Int.tmod t222 8192), .int .u8 (rd l0_3 8), .int .u8 (rd l0_3 9), .int .u32 0, .int .u32 0, .slice none 0 0, .slice none 0 0] 37 (0, 0))) := ⟨by rw [← hq_]; exact (by (with_reducible repeat (first | refine blk_drewN ?_ _ | refine blk_drew ?_ | refine blk_alloc ?_ _)); exact BK219.out)⟩; have n5_ : Aside0 (Below w.heap.size w w67) := ⟨by rw [← hq_]; exact (by repeat (first | (with_reducible first | exact HB.out | apply below_alloc | apply pw_below_drewN | apply below_drew1 | refine below_set ?_ GE210.out | refine below_set ?_ GE211.out | refine below_set ?_ GE219.out) | exact HB.out))⟩; clear HO_211003 HO_4 BK210 BK211 BK219 HB hq_; have HO_211003 := n0_; have HO_4 := n1_; have BK210 := n2_; have BK211 := n3_; have BK219 := n4_; have HB := n5_; clear n0_ n1_ n2_ n3_ n4_ n5_)); have hcz68 := blk_cell BK219.out; have hfz68 := blk_frozen BK219.out; have hfz68_10 := blk_frozen BK219.out 10) | ((with_reducible refine gate_store (t := 35) (p := 82) rfl ?_); refine store_event (t := 35) (p := 82) (v := ?vo_w69) (w1 := (w67.setCell ⟨gb219, 7, none⟩ (.int .u32 ((t223) % 4294967296)))) ?hg ?ho ?hn ?hr ?_; (case ho => rfl); (case hg => rfl); (case hn => rfl); (case hr => first | (go_simp; done) | (go_simp; rfl)); intro w69 hw; have n0_ : Aside0 (Kd.V (Kd.int .u8) 5 w69 w.heap.size (fun k_ => (P0_3_ k_ ∨ w.heap.size ≤ k_) ∧ k_ ≠ gb210 ∧ k_ ≠ gb211 ∧ k_ ≠ gb219) (.slice (some ad214) l0_3.length c0_3) l0_3) := ⟨(by rw [hw]; exact (by (with_reducible repeat (first | apply Kd.V_alloc | apply Kd.V_drewN | apply Kd.V_drew)); exact Kd.V_mono (Kd.V_far (Kd.V_mono HO_4.out (fun k_ hk => (⟨hk, hk.2.2.2⟩ : _ ∧ k_ ≠ gb219))) (fun _ hk => hk.2) _) (fun _ hk => ⟨hk.1.1, ⟨hk.1.2.1, ⟨hk.1.2.2.1, hk.1.2.2.2⟩⟩⟩)))⟩; have n1_ : Aside0 (Kd.V (Kd.int .u8) 5 w69 w.heap.size (fun k_ => (P0_3_ k_ ∨ w.heap.size ≤ k_) ∧ k_ ≠ gb210 ∧ k_ ≠ gb211 ∧ k_ ≠ gb219) (.slice (some ad214) l0_3.length c0_3) l0_3) := ⟨(by rw [hw]; exact (by (with_reducible repeat (first | apply Kd.V_alloc | apply Kd.V_drewN | apply Kd.V_drew)); exact Kd.V_mono (Kd.V_far (Kd.V_mono HO_211003.out (fun k_ hk => (⟨hk, hk.2.2.2⟩ : _ ∧ k_ ≠ gb219))) (fun _ hk => hk.2) _) (fun _ hk => ⟨hk.1.1, ⟨hk.1.2.1, ⟨hk.1.2.2.1, hk.1.2.2.2⟩⟩⟩)))⟩; have n2_ : Aside0 (w69.heap[gb210]? = some (.cells #[.int .u8 a0_0, .int .u8 a0_1, .int .u32 a0_2, .slice (some ad214) l0_3.length c0_3] 25 (0, 0))) := ⟨(by rw [hw]; exact (by (with_reducible repeat (first | refine blk_drewN ?_ _ | refine blk_drew ?_ | refine blk_alloc ?_ _)); refine blk_far ?_ NB210_219.out _; (with_reducible repeat (first | refine blk_drewN ?_ _ | refine blk_drew ?_ | refine blk_alloc ?_ _)); exact BK210.out))⟩; have n3_ : Aside0 (w69.heap[gb211]? = some (.cells #[.int .u8 0, .int .u16 0, .bool false, .bool false, .int .i64 0, .int .u8 0, .int .u8 0, .int .u32 0, .int .u32 0, .slice none 0 0, .slice none 0 0] 37 (0, 0))) := ⟨(by rw [hw]; exact (by (with_reducible repeat (first | refine blk_drewN ?_ _ | refine blk_drew ?_ | refine blk_alloc ?_ _)); refine blk_far ?_ NB211_219.out _; (with_reducible repeat (first | refine blk_drewN ?_ _ | refine blk_drew ?_ | refine blk_alloc ?_ _)); exact BK211.out))⟩; have n4_ : Aside0 (w69.heap[gb219]? = some (.cells #[.int .u8 (rd l0_3 1), .int .u16 (IntKind.u16.wrap (t216)), .bool ((((Int.tdiv (rd l0_3 6) 64) % 256) % 2) == 1), .bool ((((Int.tdiv (rd l0_3 6) 32) % 256) % 2) == 1), .int .i64 (Int.tmod t222 8192), .int .u8 (rd l0_3 8), .int .u8 (rd l0_3 9), .int .u32 ((t223) % 4294967296), .int .u32 0, .slice none 0 0, .slice none 0 0] 37 (0, 0))) := ⟨(by rw [hw]; exact (by (with_reducible repeat (first | refine blk_drewN ?_ _ | refine blk_drew ?_ | refine blk_alloc ?_ _)); refine blk_put (cs := #[.int .u8 (rd l0_3 1), .int .u16 (IntKind.u16.wrap (t216)), .bool ((((Int.tdiv (rd l0_3 6) 64) % 256) % 2) == 1), .bool ((((Int.tdiv (rd l0_3 6) 32) % 256) % 2) == 1), .int .i64 (Int.tmod t222 8192), .int .u8 (rd l0_3 8), .int .u8 (rd l0_3 9), .int .u32 0, .int .u32 0, .slice none 0 0, .slice none 0 0]) ?_ 7 _ rfl; (with_reducible repeat (first | refine blk_drewN ?_ _ | refine blk_drew ?_ | refine blk_alloc ?_ _)); exact BK219.out))⟩; have n5_ : Aside0 (Below w.heap.size w w69) := ⟨(by rw [hw]; exact (by repeat (first | (with_reducible first | exact HB.out | apply below_alloc | apply pw_below_drewN | apply below_drew1 | refine below_set ?_ GE210.out | refine below_set ?_ GE211.out | refine below_set ?_ GE219.out) | exact HB.out)))⟩; clear hw; clear HO_4; clear HO_211003; clear BK210; clear BK211; clear BK219; clear HB; have HO_4 := n0_; have HO_211003 := n1_; have BK210 := n2_; have BK211 := n3_; have BK219 := n4_; have HB := n5_; clear n0_ n1_ n2_ n3_ n4_ n5_; have hcz70 := blk_cell BK219.out; have hfz70 := blk_frozen BK219.out; have hfz70_10 := blk_frozen BK219.out 10) | ((with_reducible refine gate_store (t := 35) (p := 83) rfl ?_); refine store_event (t := 35) (p := 83) (v := ?vo_w71) (w1 := (w69.setCell ⟨gb219, 8, none⟩ (.int .u32 ((t224) % 4294967296)))) ?hg ?ho ?hn ?hr ?_; (case ho => rfl); (case hg => rfl); (case hn => rfl); (case hr => first | (go_simp; done) | (go_simp; rfl)); intro w71 hw; have n0_ : Aside0 (Kd.V (Kd.int .u8) 5 w71 w.heap.size (fun k_ => (P0_3_ k_ ∨ w.heap.size ≤ k_) ∧ k_ ≠ gb210 ∧ k_ ≠ gb211 ∧ k_ ≠ gb219) (.slice (some ad214) l0_3.length c0_3) l0_3) := ⟨(by rw [hw]; exact (by (with_reducible repeat (first | apply Kd.V_alloc | apply Kd.V_drewN | apply Kd.V_drew)); exact Kd.V_mono (Kd.V_far (Kd.V_mono HO_4.out (fun k_ hk => (⟨hk, hk.2.2.2⟩ : _ ∧ k_ ≠ gb219))) (fun _ hk => hk.2) _) (fun _ hk => ⟨hk.1.1, ⟨hk.1.2.1, ⟨hk.1.2.2.1, hk.1.2.2.2⟩⟩⟩)))⟩; have n1_ : Aside0 (Kd.V (Kd.int .u8) 5 w71 w.heap.size (fun k_ => (P0_3_ k_ ∨ w.heap.size ≤ k_) ∧ k_ ≠ gb210 ∧ k_ ≠ gb211 ∧ k_ ≠ gb219) (.slice (some ad214) l0_3.length c0_3) l0_3) := ⟨(by rw [hw]; exact (by (with_reducible repeat (first | apply Kd.V_alloc | apply Kd.V_drewN | apply Kd.V_drew)); exact Kd.V_mono (Kd.V_far (Kd.V_mono HO_211003.out (fun k_ hk => (⟨hk, hk.2.2.2⟩ : _ ∧ k_ ≠ gb219))) (fun _ hk => hk.2) _) (fun _ hk => ⟨hk.1.1, ⟨hk.1.2.1, ⟨hk.1.2.2.1, hk.1.2.2.2⟩⟩⟩)))⟩; have n2_ : Aside0 (w71.heap[gb210]? = some (.cells #[.int .u8 a0_0, .int .u8 a0_1, .int .u32 a0_2, .slice (some ad214) l0_3.length c0_3] 25 (0, 0))) := ⟨(by rw [hw]; exact (by (with_reducible repeat (first | refine blk_drewN ?_ _ | refine blk_drew ?_ | refine blk_alloc ?_ _)); refine blk_far ?_ NB210_219.out _; (with_reducible repeat (first | refine blk_drewN ?_ _ | refine blk_drew ?_ | refine blk_alloc ?_ _)); exact BK210.out))⟩; have n3_ : Aside0 (w71.heap[gb211]? = some (.cells #[.int .u8 0, .int .u16 0, .bool false, .bool false, .int .i64 0, .int .u8 0, .int .u8 0, .int .u32 0, .int .u32 0, .slice none 0 0, .slice none 0 0] 37 (0, 0))) := ⟨(by rw [hw]; exact (by (with_reducible repeat (first | refine blk_drewN ?_ _ | refine blk_drew ?_ | refine blk_alloc ?_ _)); refine blk_far ?_ NB211_219.out _; (with_reducible repeat (first | refine blk_drewN ?_ _ | refine blk_drew ?_ | refine blk_alloc ?_ _)); exact BK211.out))⟩; have n4_ : Aside0 (w71.heap[gb219]? = some (.cells #[.int .u8 (rd l0_3 1), .int .u16 (IntKind.u16.wrap (t216)), .bool ((((Int.tdiv (rd l0_3 6) 64) % 256) % 2) == 1), .bool ((((Int.tdiv (rd l0_3 6) 32) % 256) % 2) == 1), .int .i64 (Int.tmod t222 8192), .int .u8 (rd l0_3 8), .int .u8 (rd l0_3 9), .int .u32 ((t223) % 4294967296), .int .u32 ((t224) % 4294967296), .slice none 0 0, .slice none 0 0] 37 (0, 0))) := ⟨(by rw [hw]; exact (by (with_reducible repeat (first | refine blk_drewN ?_ _ | refine blk_drew ?_ | refine blk_alloc ?_ _)); refine blk_put (cs := #[.int .u8 (rd l0_3 1), .int .u16 (IntKind.u16.wrap (t216)), .bool ((((Int.tdiv (rd l0_3 6) 64) % 256) % 2) == 1), .bool ((((Int.tdiv (rd l0_3 6) 32) % 256) % 2) == 1), .int .i64 (Int.tmod t222 8192), .int .u8 (rd l0_3 8), .int .u8 (rd l0_3 9), .int .u32 ((t223) % 4294967296), .int .u32 0, .slice none 0 0, .slice none 0 0]) ?_ 8 _ rfl; (with_reducible repeat (first | refine blk_drewN ?_ _ | refine blk_drew ?_ | refine blk_alloc ?_ _)); exact BK219.out))⟩; have n5_ : Aside0 (Below w.heap.size w w71) := ⟨(by rw [hw]; exact (by repeat (first | (with_reducible first | exact HB.out | apply below_alloc | apply pw_below_drewN | apply below_drew1 | refine below_set ?_ GE210.out | refine below_set ?_ GE211.out | refine below_set ?_ GE219.out) | exact HB.out)))⟩; clear hw; clear HO_4; clear HO_211003; clear BK210; clear BK211; clear BK219; clear HB; have HO_4 := n0_; have HO_211003 := n1_; have BK210 := n2_; have BK211 := n3_; have BK219 := n4_; have HB := n5_; clear n0_ n1_ n2_ n3_ n4_ n5_))
                   have n0_ := Aside0.mk (Kd.V_drew HO_4.out)
                   have n1_ := Aside0.mk (Kd.V_drew HO_211003.out)
                   have n2_ := Aside0.mk (blk_drew BK210.out)
                   have n3_ := Aside0.mk (blk_drew BK211.out)
                   have n4_ := Aside0.mk (blk_drew BK219.out)
                   have n5_ := Aside0.mk (below_drew1 HB.out)
                   clear HO_4
                   clear HO_211003
                   clear BK210
                   clear BK211
                   clear BK219
                   clear HB
                   have HO_4 := n0_
                   have HO_211003 := n1_
                   have BK210 := n2_
                   have BK211 := n3_
                   have BK219 := n4_
                   have HB := n5_
                   clear n0_ n1_ n2_ n3_ n4_ n5_
                   have q73 : ((ji42) : Int) ≤ ((l0_3.length : Int) : Int) := of_decide_eq_true (by first | (with_reducible assumption) | assumption)
                   obtain ⟨i073, hi073, _, hsz73, _⟩ := info_parts info5
                   have hroom73 : l0_3.length ≤ c0_3 := (Kd.V_reads' HO_4.out).2.1
                   have hC73 : Kd.F (Kd.int .u8) _ _ (some ad214) l0_3.length l0_3 := (Kd.V_at (base := w.heap.size) HO_4.out).2.2
                   have ql73 : (20 : Int) ≤ ((ji42) : Int) := of_decide_eq_true (by first | (with_reducible assumption) | assumption)
                   have hcut73 := cut_mid (P := Try.prog) 23 5 .i64 .i64 Try.underlying23 hi073 1 hsz73 (some ad214) l0_3.length c0_3 20 (ji42) (by omega) ql73 q73 hroom73
                   have hr73 := Kd.F_mid (lo := (20 : Int).toNat) (hi := ((ji42) : Int).toNat) (c := c0_3) hC73 (by omega) (by omega) hroom73
                   obtain ⟨A73, hA73⟩ : ∃ A1, A1 = (if c0_3 = (20 : Int).toNat then (some ad214) else ((some ad214) : Option Addr).map (·.add ((20 : Int).toNat * 1))) := ⟨_, rfl⟩
                   obtain ⟨c73, hc73⟩ : ∃ c1, c1 = c0_3 - (20 : Int).toNat := ⟨_, rfl⟩
                   have hy73 : y225.length = ((ji42) : Int).toNat - (20 : Int).toNat := (by rw [Ny225.out, List.length_drop, List.length_take] <;> omega)
                   rw [show ((l0_3).take ((ji42) : Int).toNat).drop (20 : Int).toNat = y225 from Ny225.out.symm] at hr73
                   replace hr73 : Kd.F (Kd.int .u8) _ _ A73 y225.length y225 := (by rw [hA73]; exact hr73)
                   rw [← hy73, ← hA73, ← hc73] at hcut73
                   have HO229 := Aside0.mk (show Kd.V (Kd.int .u8) 5 _ w.heap.size _ (.slice A73 y225.length c73) y225 from Kd.V_mk (by rw [hy73, hc73]; exact Nat.sub_le_sub_right (Nat.le_trans (by omega) hroom73) _) hr73)
                   have HC229 := Aside0.mk (show y225.length ≤ c73 from by rw [hy73, hc73]; exact Nat.sub_le_sub_right (Nat.le_trans (by omega) hroom73) _)
                   clear hr73 hC73 hroom73 hi073 hsz73 hc73
                   have KY73 := Aside0.mk hy73
                   have KA73 := Aside0.mk hA73
                   clear hy73 hA73
                   replace q73 := eq_true q73
                   have q74 : ((wrap64 ((ji42) + 8)) : Int) ≤ ((l0_3.length : Int) : Int) := of_decide_eq_true (by first | (with_reducible assumption) | assumption)
                   obtain ⟨i074, hi074, _, hsz74, _⟩ := info_parts info5
                   have hroom74 : l0_3.length ≤ c0_3 := (Kd.V_reads' HO_4.out).2.1
                   have hC74 : Kd.F (Kd.int .u8) _ _ (some ad214) l0_3.length l0_3 := (Kd.V_at (base := w.heap.size) HO_4.out).2.2
                   have ql74 : ((ji42) : Int) ≤ ((wrap64 ((ji42) + 8)) : Int) := of_decide_eq_true (by first | (with_reducible assumption) | assumption)
                   have q074 : (0 : Int) ≤ ((ji42) : Int) := of_decide_eq_true (by first | (with_reducible assumption) | assumption)
                   have hcut74 := cut_mid (P := Try.prog) 23 5 .i64 .i64 Try.underlying23 hi074 1 hsz74 (some ad214) l0_3.length c0_3 (ji42) (wrap64 ((ji42) + 8)) q074 ql74 q74 hroom74
                   have hr74 := Kd.F_mid (lo := ((ji42) : Int).toNat) (hi := ((wrap64 ((ji42) + 8)) : Int).toNat) (c := c0_3) hC74 (by omega) (by omega) hroom74
                   obtain ⟨A74, hA74⟩ : ∃ A1, A1 = (if c0_3 = ((ji42) : Int).toNat then (some ad214) else ((some ad214) : Option Addr).map (·.add (((ji42) : Int).toNat * 1))) := ⟨_, rfl⟩
                   obtain ⟨c74, hc74⟩ : ∃ c1, c1 = c0_3 - ((ji42) : Int).toNat := ⟨_, rfl⟩
                   have hy74 : y230.length = ((wrap64 ((ji42) + 8)) : Int).toNat - ((ji42) : Int).toNat := (by rw [Ny230.out, List.length_drop, List.length_take] <;> omega)
                   rw [show ((l0_3).take ((wrap64 ((ji42) + 8)) : Int).toNat).drop ((ji42) : Int).toNat = y230 from Ny230.out.symm] at hr74
                   replace hr74 : Kd.F (Kd.int .u8) _ _ A74 y230.length y230 := (by rw [hA74]; exact hr74)
                   rw [← hy74, ← hA74, ← hc74] at hcut74
                   have HO234 := Aside0.mk (show Kd.V (Kd.int .u8) 5 _ w.heap.size _ (.slice A74 y230.length c74) y230 from Kd.V_mk (by rw [hy74, hc74]; exact Nat.sub_le_sub_right (Nat.le_trans (by omega) hroom74) _) hr74)
                   have HC234 := Aside0.mk (show y230.length ≤ c74 from by rw [hy74, hc74]; exact Nat.sub_le_sub_right (Nat.le_trans (by omega) hroom74) _)
                   clear hr74 hC74 hroom74 hi074 hsz74 hc74
                   have KY74 := Aside0.mk hy74
                   have KA74 := Aside0.mk hA74
                   clear hy74 hA74
                   replace q74 := eq_true q74
                   refine start_ (n := 12) (S := fun w' => True) (ds := []) (bb 12 0) (by kernel_rfl) rfl rfl trivial (fun hHeld => ?_); refine with_tabW towroperef07_Cause.tab16 towroperef07_Cause.bits16 (fun HT_ HW_ => ?_)
                   generalize w71.drew = w72 at HO_4 HO_211003 BK210 BK211 BK219 HB HO229 HO234 hHeld ⊢
                   refine pure_ (i := 0) (N := some 84) (v := ?_) (a' := ?_) (bb 12 1) rfl rfl (any_of HT_.out (by kernel_rfl)) (fun _ _ _ h => h) (Or.inl ⟨by rfl, ?_⟩) ?_ ?_
                   rotate_left
                   ·
                    intro w'
                    go_simp
                    with_reducible rfl
                   rotate_left
                   ·
                    simp only [Act.put, List.setIfInBounds_toArray, List.set_cons_zero, List.set_cons_succ, i64_w, i32_w]
                    rfl
                   refine pure_ (i := 1) (N := some 85) (v := ?_) (a' := ?_) (bb 12 3) rfl rfl (any_of HT_.out (by kernel_rfl)) (fun _ _ _ h => h) (Or.inl ⟨by rfl, ?_⟩) ?_ ?_
                   rotate_left
                   ·
                    intro w'
                    go_simp
                    with_reducible rfl
                   rotate_left
                   ·
                    simp only [Act.put, List.setIfInBounds_toArray, List.set_cons_zero, List.set_cons_succ, i64_w, i32_w]
                    rfl
                   refine pure_ (i := 2) (N := some 86) (v := ?_) (a' := ?_) (bb 12 7) rfl rfl (any_of HT_.out (by kernel_rfl)) (fun _ _ _ h => h) (Or.inl ⟨by rfl, ?_⟩) ?_ ?_
                   rotate_left
                   ·
                    intro w'
                    go_simp
                    with_reducible rfl
                   rotate_left
                   ·
                    simp only [Act.put, List.setIfInBounds_toArray, List.set_cons_zero, List.set_cons_succ, i64_w, i32_w]
                    rfl
                   refine pure_ (i := 3) (N := some 87) (v := ?_) (a' := ?_) (bb 12 15) rfl rfl (any_of HT_.out (by kernel_rfl)) (fun _ _ _ h => h) (Or.inl ⟨by rfl, ?_⟩) ?_ ?_
                   rotate_left
                   ·
                    intro w'
                    go_simp
                    with_reducible rfl
                   rotate_left
                   ·
                    simp only [Act.put, List.setIfInBounds_toArray, List.set_cons_zero, List.set_cons_succ, i64_w, i32_w]
                    rfl
                   refine pure_ (i := 4) (N := some 88) (v := ?_) (a' := ?_) (bb 12 31) rfl rfl (any_of HT_.out (by kernel_rfl)) (fun _ _ _ h => h) (Or.inl ⟨by rfl, ?_⟩) ?_ ?_
                   rotate_left
                   ·
                    intro w'
                    go_simp
                    with_reducible rfl
                   rotate_left
                   ·
                    simp only [Act.put, List.setIfInBounds_toArray, List.set_cons_zero, List.set_cons_succ, i64_w, i32_w]
                    rfl
                   refine pure_ (i := 5) (N := some 89) (v := ?_) (a' := ?_) (bb 12 63) rfl rfl (any_of HT_.out (by kernel_rfl)) (fun _ _ _ h => h) (Or.inl ⟨by rfl, ?_⟩) ?_ ?_
                   rotate_left
                   ·
                    intro w'
                    go_simp
                    with_reducible rfl
                   rotate_left
                   ·
                    simp only [Act.put, List.setIfInBounds_toArray, List.set_cons_zero, List.set_cons_succ, i64_w, i32_w]
                    rfl
                   refine pure_ (i := 6) (N := some 90) (v := ?_) (a' := ?_) (bb 12 127) rfl rfl (any_of HT_.out (by kernel_rfl)) (fun _ _ _ h => h) (Or.inl ⟨by rfl, ?_⟩) ?_ ?_
                   rotate_left
                   ·
                    intro w'
                    go_simp
                    with_reducible rfl
                   rotate_left
                   ·
                    simp only [Act.put, List.setIfInBounds_toArray, List.set_cons_zero, List.set_cons_succ, i64_w, i32_w]
                    rfl
                   refine pure_ (i := 7) (N := some 91) (v := ?_) (a' := ?_) (bb 12 255) rfl rfl (any_of HT_.out (by kernel_rfl)) (fun _ _ _ h => h) (Or.inl ⟨by rfl, ?_⟩) ?_ ?_
                   rotate_left
                   ·
                    intro w'
                    go_simp
                    with_reducible rfl
                   rotate_left
                   ·
                    simp only [Act.put, List.setIfInBounds_toArray, List.set_cons_zero, List.set_cons_succ, i64_w, i32_w]
                    rfl
                   refine pure_ (i := 8) (N := some 92) (v := ?_) (a' := ?_) (bb 12 511) rfl rfl (any_of HT_.out (by kernel_rfl)) (fun _ _ _ h => h) (Or.inl ⟨by rfl, ?_⟩) ?_ ?_
                   rotate_left
                   ·
                    intro w'
                    go_simp
                    with_reducible rfl
                   rotate_left
                   ·
                    simp only [Act.put, List.setIfInBounds_toArray, List.set_cons_zero, List.set_cons_succ, i64_w, i32_w]
                    rfl
                   refine one_ (i := 9) (N := none) (bb 12 1023) rfl rfl (one_of HT_.out (by kernel_rfl)) (by decide) (fun K hK => ?_)
                   have hs75 : w72.cell? ⟨gb219, 9, none⟩ = some (.slice none 0 0) := (blk_cell BK219.out 9).trans rfl
                   have hfs75 := blk_frozen BK219.out 9
                   have hns75_0 := NB210_219.out
                   have hns75_1 := NB211_219.out
                   have hms75_0 := NB219_210.out
                   have hms75_1 := NB219_211.out
                   refine skip_ (w1 := ?_) (by rfl) rfl ?_ ?_
                   rotate_left
                   ·
                    go_simp
                    rfl
                   refine hK.out _ _ trivial (fun hHeld => ?_)
                   clear hK K
                   refine pure_ (i := 10) (N := some 93) (v := ?_) (a' := ?_) (bb 12 2047) rfl rfl (any_of HT_.out (by kernel_rfl)) (fun _ _ _ h => h) (Or.inl ⟨by rfl, ?_⟩) ?_ ?_
                   rotate_left
                   ·
                    intro w'
                    go_simp
                    with_reducible rfl
                   rotate_left
                   ·
                    simp only [Act.put, List.setIfInBounds_toArray, List.set_cons_zero, List.set_cons_succ, i64_w, i32_w]
                    rfl
                   refine one_ (i := 11) (N := none) (bb 12 4095) rfl rfl (one_of HT_.out (by kernel_rfl)) (by decide) (fun K hK => ?_)
                   have hs76 : w72.cell? ⟨gb219, 10, none⟩ = some (.slice none 0 0) := (blk_cell BK219.out 10).trans rfl
                   have hfs76 := blk_frozen BK219.out 10
                   have hns76_0 := NB210_219.out
                   have hns76_1 := NB211_219.out
                   have hms76_0 := NB219_210.out
                   have hms76_1 := NB219_211.out
                   refine skip_ (w1 := ?_) (by rfl) rfl ?_ ?_
                   rotate_left
                   ·
                    go_simp
                    rfl
                   refine hK.out _ _ trivial (fun hHeld => ?_)
                   clear hK K
                   refine done_ (done_of HT_.out (by kernel_rfl)) ?_
                   have hcz77 := blk_cell BK219.out
                   have hfz77 := blk_frozen BK219.out
                   have hnb78 := NB211_210.out
                   have hnc78 := NB210_211.out
                   have hcz79 := blk_cell BK211.out
                   have hfz79 := blk_frozen BK211.out
                   try go_wp2_with (first | ((with_reducible refine gate_store (t := 37) (p := 2) rfl ?_); refine store_event (t := 37) (p := 2) (v := ?vo_w80) (w1 := (((((((((((((w72.setCell ⟨gb219, 9, none⟩ (.slice A73 y225.length c73)).setCell ⟨gb219, 10, none⟩ (.slice A74 y230.length c74)).setCell ⟨gb211, 0, none⟩ (.int .u8 (rd l0_3 1))).setCell ⟨gb211, 1, none⟩ (.int .u16 (IntKind.u16.wrap (t216)))).setCell ⟨gb211, 2, none⟩ (.bool ((((Int.tdiv (rd l0_3 6) 64) % 256) % 2) == 1))).setCell ⟨gb211, 3, none⟩ (.bool ((((Int.tdiv (rd l0_3 6) 32) % 256) % 2) == 1))).setCell ⟨gb211, 4, none⟩ (.int .i64 (Int.tmod t222 8192))).setCell ⟨gb211, 5, none⟩ (.int .u8 (rd l0_3 8))).setCell ⟨gb211, 6, none⟩ (.int .u8 (rd l0_3 9))).setCell ⟨gb211, 7, none⟩ (.int .u32 ((t223) % 4294967296))).setCell ⟨gb211, 8, none⟩ (.int .u32 ((t224) % 4294967296))).setCell ⟨gb211, 9, none⟩ (.slice A73 y225.length c73)).setCell ⟨gb211, 10, none⟩ (.slice A74 y230.length c74))) ?hg ?ho ?hn ?hr ?_; (case ho => rfl); (case hg => rfl); (case hn => rfl); (case hr => first | (go_simp; done) | (go_simp; rfl)); intro w80 hw; have n0_ : Aside0 (Kd.V (Kd.int .u8) 5 w80 w.heap.size (fun k_ => (P0_3_ k_ ∨ w.heap.size ≤ k_) ∧ k_ ≠ gb210 ∧ k_ ≠ gb211 ∧ k_ ≠ gb219) (.slice (some ad214) l0_3.length c0_3) l0_3) := ⟨(by rw [hw]; exact (by (with_reducible repeat (first | apply Kd.V_alloc | apply Kd.V_drewN | apply Kd.V_drew)); exact Kd.V_mono (Kd.V_far (Kd.V_far (Kd.V_far (Kd.V_far (Kd.V_far (Kd.V_far (Kd.V_far (Kd.V_far (Kd.V_far (Kd.V_far (Kd.V_far (Kd.V_far (Kd.V_far (Kd.V_mono (Kd.V_mono HO_4.out (fun k_ hk => (⟨hk, hk.2.2.2⟩ : _ ∧ k_ ≠ gb219))) (fun k_ hk => (⟨hk, hk.1.2.2.1⟩ : _ ∧ k_ ≠ gb211))) (fun _ hk => hk.1.2) (.slice A73 y225.length c73)) (fun _ hk => hk.1.2) (.slice A74 y230.length c74)) (fun _ hk => hk.2) _) (fun _ hk => hk.2) _) (fun _ hk => hk.2) _) (fun _ hk => hk.2) _) (fun _ hk => hk.2) _) (fun _ hk => hk.2) _) (fun _ hk => hk.2) _) (fun _ hk => hk.2) _) (fun _ hk => hk.2) _) (fun _ hk => hk.2) _) (fun _ hk => hk.2) _) (fun _ hk => ⟨hk.1.1.1, ⟨hk.1.1.2.1, ⟨hk.1.1.2.2.1, hk.1.1.2.2.2⟩⟩⟩)))⟩; have n1_ : Aside0 (Kd.V (Kd.int .u8) 5 w80 w.heap.size (fun k_ => (P0_3_ k_ ∨ w.heap.size ≤ k_) ∧ k_ ≠ gb210 ∧ k_ ≠ gb211 ∧ k_ ≠ gb219) (.slice (some ad214) l0_3.length c0_3) l0_3) := ⟨(by rw [hw]; exact (by (with_reducible repeat (first | apply Kd.V_alloc | apply Kd.V_drewN | apply Kd.V_drew)); exact Kd.V_mono (Kd.V_far (Kd.V_far (Kd.V_far (Kd.V_far (Kd.V_far (Kd.V_far (Kd.V_far (Kd.V_far (Kd.V_far (Kd.V_far (Kd.V_far (Kd.V_far (Kd.V_far (Kd.V_mono (Kd.V_mono HO_211003.out (fun k_ hk => (⟨hk, hk.2.2.2⟩ : _ ∧ k_ ≠ gb219))) (fun k_ hk => (⟨hk, hk.1.2.2.1⟩ : _ ∧ k_ ≠ gb211))) (fun _ hk => hk.1.2) (.slice A73 y225.length c73)) (fun _ hk => hk.1.2) (.slice A74 y230.length c74)) (fun _ hk => hk.2) _) (fun _ hk => hk.2) _) (fun _ hk => hk.2) _) (fun _ hk => hk.2) _) (fun _ hk => hk.2) _) (fun _ hk => hk.2) _) (fun _ hk => hk.2) _) (fun _ hk => hk.2) _) (fun _ hk => hk.2) _) (fun _ hk => hk.2) _) (fun _ hk => hk.2) _) (fun _ hk => ⟨hk.1.1.1, ⟨hk.1.1.2.1, ⟨hk.1.1.2.2.1, hk.1.1.2.2.2⟩⟩⟩)))⟩; have n2_ : Aside0 (Kd.V (Kd.int .u8) 5 w80 w.heap.size (fun k_ => (P0_3_ k_ ∨ w.heap.size ≤ k_) ∧ k_ ≠ gb210 ∧ k_ ≠ gb211 ∧ k_ ≠ gb219) (.slice A73 y225.length c73) y225) := ⟨(by rw [hw]; exact (by (with_reducible repeat (first | apply Kd.V_alloc | apply Kd.V_drewN | apply Kd.V_drew)); exact Kd.V_mono (Kd.V_far (Kd.V_far (Kd.V_far (Kd.V_far (Kd.V_far (Kd.V_far (Kd.V_far (Kd.V_far (Kd.V_far (Kd.V_far (Kd.V_far (Kd.V_far (Kd.V_far (Kd.V_mono (Kd.V_mono HO229.out (fun k_ hk => (⟨hk, hk.2.2.2⟩ : _ ∧ k_ ≠ gb219))) (fun k_ hk => (⟨hk, hk.1.2.2.1⟩ : _ ∧ k_ ≠ gb211))) (fun _ hk => hk.1.2) (.slice A73 y225.length c73)) (fun _ hk => hk.1.2) (.slice A74 y230.length c74)) (fun _ hk => hk.2) _) (fun _ hk => hk.2) _) (fun _ hk => hk.2) _) (fun _ hk => hk.2) _) (fun _ hk => hk.2) _) (fun _ hk => hk.2) _) (fun _ hk => hk.2) _) (fun _ hk => hk.2) _) (fun _ hk => hk.2) _) (fun _ hk => hk.2) _) (fun _ hk => hk.2) _) (fun _ hk => ⟨hk.1.1.1, ⟨hk.1.1.2.1, ⟨hk.1.1.2.2.1, hk.1.1.2.2.2⟩⟩⟩)))⟩; have n3_ : Aside0 (Kd.V (Kd.int .u8) 5 w80 w.heap.size (fun k_ => (P0_3_ k_ ∨ w.heap.size ≤ k_) ∧ k_ ≠ gb210 ∧ k_ ≠ gb211 ∧ k_ ≠ gb219) (.slice A74 y230.length c74) y230) := ⟨(by rw [hw]; exact (by (with_reducible repeat (first | apply Kd.V_alloc | apply Kd.V_drewN | apply Kd.V_drew)); exact Kd.V_mono (Kd.V_far (Kd.V_far (Kd.V_far (Kd.V_far (Kd.V_far (Kd.V_far (Kd.V_far (Kd.V_far (Kd.V_far (Kd.V_far (Kd.V_far (Kd.V_far (Kd.V_far (Kd.V_mono (Kd.V_mono HO234.out (fun k_ hk => (⟨hk, hk.2.2.2⟩ : _ ∧ k_ ≠ gb219))) (fun k_ hk => (⟨hk, hk.1.2.2.1⟩ : _ ∧ k_ ≠ gb211))) (fun _ hk => hk.1.2) (.slice A73 y225.length c73)) (fun _ hk => hk.1.2) (.slice A74 y230.length c74)) (fun _ hk => hk.2) _) (fun _ hk => hk.2) _) (fun _ hk => hk.2) _) (fun _ hk => hk.2) _) (fun _ hk => hk.2) _) (fun _ hk => hk.2) _) (fun _ hk => hk.2) _) (fun _ hk => hk.2) _) (fun _ hk => hk.2) _) (fun _ hk => hk.2) _) (fun _ hk => hk.2) _) (fun _ hk => ⟨hk.1.1.1, ⟨hk.1.1.2.1, ⟨hk.1.1.2.2.1, hk.1.1.2.2.2⟩⟩⟩)))⟩; have n4_ : Aside0 (w80.heap[gb210]? = some (.cells #[.int .u8 a0_0, .int .u8 a0_1, .int .u32 a0_2, .slice (some ad214) l0_3.length c0_3] 25 (0, 0))) := ⟨(by rw [hw]; exact (by (with_reducible repeat (first | refine blk_drewN ?_ _ | refine blk_drew ?_ | refine blk_alloc ?_ _)); refine blk_far ?_ NB210_211.out _; (with_reducible repeat (first | refine blk_drewN ?_ _ | refine blk_drew ?_ | refine blk_alloc ?_ _)); refine blk_far ?_ NB210_211.out _; (with_reducible repeat (first | refine blk_drewN ?_ _ | refine blk_drew ?_ | refine blk_alloc ?_ _)); refine blk_far ?_ NB210_211.out _; (with_reducible repeat (first | refine blk_drewN ?_ _ | refine blk_drew ?_ | refine blk_alloc ?_ _)); refine blk_far ?_ NB210_211.out _; (with_reducible repeat (first | refine blk_drewN ?_ _ | refine blk_drew ?_ | refine blk_alloc ?_ _)); refine blk_far ?_ NB210_211.out _; (with_reducible repeat (first | refine blk_drewN ?_ _ | refine blk_drew ?_ | refine blk_alloc ?_ _)); refine blk_far ?_ NB210_211.out _; (with_reducible repeat (first | refine blk_drewN ?_ _ | refine blk_drew ?_ | refine blk_alloc ?_ _)); refine blk_far ?_ NB210_211.out _; (with_reducible repeat (first | refine blk_drewN ?_ _ | refine blk_drew ?_ | refine blk_alloc ?_ _)); refine blk_far ?_ NB210_211.out _; (with_reducible repeat (first | refine blk_drewN ?_ _ | refine blk_drew ?_ | refine blk_alloc ?_ _)); refine blk_far ?_ NB210_211.out _; (with_reducible repeat (first | refine blk_drewN ?_ _ | refine blk_drew ?_ | refine blk_alloc ?_ _)); refine blk_far ?_ NB210_211.out _; (with_reducible repeat (first | refine blk_drewN ?_ _ | refine blk_drew ?_ | refine blk_alloc ?_ _)); refine blk_far ?_ NB210_211.out _; (with_reducible repeat (first | refine blk_drewN ?_ _ | refine blk_drew ?_ | refine blk_alloc ?_ _)); refine blk_far ?_ NB210_219.out _; (with_reducible repeat (first | refine blk_drewN ?_ _ | refine blk_drew ?_ | refine blk_alloc ?_ _)); refine blk_far ?_ NB210_219.out _; (with_reducible repeat (first | refine blk_drewN ?_ _ | refine blk_drew ?_ | refine blk_alloc ?_ _)); exact BK210.out))⟩; have n5_ : Aside0 (w80.heap[gb211]? = some (.cells #[.int .u8 (rd l0_3 1), .int .u16 (IntKind.u16.wrap (t216)), .bool ((((Int.tdiv (rd l0_3 6) 64) % 256) % 2) == 1), .bool ((((Int.tdiv (rd l0_3 6) 32) % 256) % 2) == 1), .int .i64 (Int.tmod t222 8192), .int .u8 (rd l0_3 8), .int .u8 (rd l0_3 9), .int .u32 ((t223) % 4294967296), .int .u32 ((t224) % 4294967296), .slice A73 y225.length c73, .slice A74 y230.length c74] 37 (0, 0))) := ⟨(by rw [hw]; exact (by (with_reducible repeat (first | refine blk_drewN ?_ _ | refine blk_drew ?_ | refine blk_alloc ?_ _)); refine blk_put (cs := #[.int .u8 (rd l0_3 1), .int .u16 (IntKind.u16.wrap (t216)), .bool ((((Int.tdiv (rd l0_3 6) 64) % 256) % 2) == 1), .bool ((((Int.tdiv (rd l0_3 6) 32) % 256) % 2) == 1), .int .i64 (Int.tmod t222 8192), .int .u8 (rd l0_3 8), .int .u8 (rd l0_3 9), .int .u32 ((t223) % 4294967296), .int .u32 ((t224) % 4294967296), .slice A73 y225.length c73, .slice none 0 0]) ?_ 10 _ rfl; (with_reducible repeat (first | refine blk_drewN ?_ _ | refine blk_drew ?_ | refine blk_alloc ?_ _)); refine blk_put (cs := #[.int .u8 (rd l0_3 1), .int .u16 (IntKind.u16.wrap (t216)), .bool ((((Int.tdiv (rd l0_3 6) 64) % 256) % 2) == 1), .bool ((((Int.tdiv (rd l0_3 6) 32) % 256) % 2) == 1), .int .i64 (Int.tmod t222 8192), .int .u8 (rd l0_3 8), .int .u8 (rd l0_3 9), .int .u32 ((t223) % 4294967296), .int .u32 ((t224) % 4294967296), .slice none 0 0, .slice none 0 0]) ?_ 9 _ rfl; (with_reducible repeat (first | refine blk_drewN ?_ _ | refine blk_drew ?_ | refine blk_alloc ?_ _)); refine blk_put (cs := #[.int .u8 (rd l0_3 1), .int .u16 (IntKind.u16.wrap (t216)), .bool ((((Int.tdiv (rd l0_3 6) 64) % 256) % 2) == 1), .bool ((((Int.tdiv (rd l0_3 6) 32) % 256) % 2) == 1), .int .i64 (Int.tmod t222 8192), .int .u8 (rd l0_3 8), .int .u8 (rd l0_3 9), .int .u32 ((t223) % 4294967296), .int .u32 0, .slice none 0 0, .slice none 0 0]) ?_ 8 _ rfl; (with_reducible repeat (first | refine blk_drewN ?_ _ | refine blk_drew ?_ | refine blk_alloc ?_ _)); refine blk_put (cs := #[.int .u8 (rd l0_3 1), .int .u16 (IntKind.u16.wrap (t216)), .bool ((((Int.tdiv (rd l0_3 6) 64) % 256) % 2) == 1), .bool ((((Int.tdiv (rd l0_3 6) 32) % 256) % 2) == 1), .int .i64 (Int.tmod t222 8192), .int .u8 (rd l0_3 8), .int .u8 (rd l0_3 9), .int .u32 0, .int .u32 0, .slice none 0 0, .slice none 0 0]) ?_ 7 _ rfl; (with_reducible repeat (first | refine blk_drewN ?_ _ | refine blk_drew ?_ | refine blk_alloc ?_ _)); refine blk_put (cs := #[.int .u8 (rd l0_3 1), .int .u16 (IntKind.u16.wrap (t216)), .bool ((((Int.tdiv (rd l0_3 6) 64) % 256) % 2) == 1), .bool ((((Int.tdiv (rd l0_3 6) 32) % 256) % 2) == 1), .int .i64 (Int.tmod t222 8192), .int .u8 (rd l0_3 8), .int .u8 0, .int .u32 0, .int .u32 0, .slice none 0 0, .slice none 0 0]) ?_ 6 _ rfl; (with_reducible repeat (first | refine blk_drewN ?_ _ | refine blk_drew ?_ | refine blk_alloc ?_ _)); refine blk_put (cs := #[.int .u8 (rd l0_3 1), .int .u16 (IntKind.u16.wrap (t216)), .bool ((((Int.tdiv (rd l0_3 6) 64) % 256) % 2) == 1), .bool ((((Int.tdiv (rd l0_3 6) 32) % 256) % 2) == 1), .int .i64 (Int.tmod t222 8192), .int .u8 0, .int .u8 0, .int .u32 0, .int .u32 0, .slice none 0 0, .slice none 0 0]) ?_ 5 _ rfl; (with_reducible repeat (first | refine blk_drewN ?_ _ | refine blk_drew ?_ | refine blk_alloc ?_ _)); refine blk_put (cs := #[.int .u8 (rd l0_3 1), .int .u16 (IntKind.u16.wrap (t216)), .bool ((((Int.tdiv (rd l0_3 6) 64) % 256) % 2) == 1), .bool ((((Int.tdiv (rd l0_3 6) 32) % 256) % 2) == 1), .int .i64 0, .int .u8 0, .int .u8 0, .int .u32 0, .int .u32 0, .slice none 0 0, .slice none 0 0]) ?_ 4 _ rfl; (with_reducible repeat (first | refine blk_drewN ?_ _ | refine blk_drew ?_ | refine blk_alloc ?_ _)); refine blk_put (cs := #[.int .u8 (rd l0_3 1), .int .u16 (IntKind.u16.wrap (t216)), .bool ((((Int.tdiv (rd l0_3 6) 64) % 256) % 2) == 1), .bool false, .int .i64 0, .int .u8 0, .int .u8 0, .int .u32 0, .int .u32 0, .slice none 0 0, .slice none 0 0]) ?_ 3 _ rfl; (with_reducible repeat (first | refine blk_drewN ?_ _ | refine blk_drew ?_ | refine blk_alloc ?_ _)); refine blk_put (cs := #[.int .u8 (rd l0_3 1), .int .u16 (IntKind.u16.wrap (t216)), .bool false, .bool false, .int .i64 0, .int .u8 0, .int .u8 0, .int .u32 0, .int .u32 0, .slice none 0 0, .slice none 0 0]) ?_ 2 _ rfl; (with_reducible repeat (first | refine blk_drewN ?_ _ | refine blk_drew ?_ | refine blk_alloc ?_ _)); refine blk_put (cs := #[.int .u8 (rd l0_3 1), .int .u16 0, .bool false, .bool false, .int .i64 0, .int .u8 0, .int .u8 0, .int .u32 0, .int .u32 0, .slice none 0 0, .slice none 0 0]) ?_ 1 _ rfl; (with_reducible repeat (first | refine blk_drewN ?_ _ | refine blk_drew ?_ | refine blk_alloc ?_ _)); refine blk_put (cs := #[.int .u8 0, .int .u16 0, .bool false, .bool false, .int .i64 0, .int .u8 0, .int .u8 0, .int .u32 0, .int .u32 0, .slice none 0 0, .slice none 0 0]) ?_ 0 _ rfl; (with_reducible repeat (first | refine blk_drewN ?_ _ | refine blk_drew ?_ | refine blk_alloc ?_ _)); refine blk_far ?_ NB211_219.out _; (with_reducible repeat (first | refine blk_drewN ?_ _ | refine blk_drew ?_ | refine blk_alloc ?_ _)); refine blk_far ?_ NB211_219.out _; (with_reducible repeat (first | refine blk_drewN ?_ _ | refine blk_drew ?_ | refine blk_alloc ?_ _)); exact BK211.out))⟩; have n6_ : Aside0 (w80.heap[gb219]? = some (.cells #[.int .u8 (rd l0_3 1), .int .u16 (IntKind.u16.wrap (t216)), .bool ((((Int.tdiv (rd l0_3 6) 64) % 256) % 2) == 1), .bool ((((Int.tdiv (rd l0_3 6) 32) % 256) % 2) == 1), .int .i64 (Int.tmod t222 8192), .int .u8 (rd l0_3 8), .int .u8 (rd l0_3 9), .int .u32 ((t223) % 4294967296), .int .u32 ((t224) % 4294967296), .slice A73 y225.length c73, .slice A74 y230.length c74] 37 (0, 0))) := ⟨(by rw [hw]; exact (by (with_reducible repeat (first | refine blk_drewN ?_ _ | refine blk_drew ?_ | refine blk_alloc ?_ _)); refine blk_far ?_ NB219_211.out _; (with_reducible repeat (first | refine blk_drewN ?_ _ | refine blk_drew ?_ | refine blk_alloc ?_ _)); refine blk_far ?_ NB219_211.out _; (with_reducible repeat (first | refine blk_drewN ?_ _ | refine blk_drew ?_ | refine blk_alloc ?_ _)); refine blk_far ?_ NB219_211.out _; (with_reducible repeat (first | refine blk_drewN ?_ _ | refine blk_drew ?_ | refine blk_alloc ?_ _)); refine blk_far ?_ NB219_211.out _; (with_reducible repeat (first | refine blk_drewN ?_ _ | refine blk_drew ?_ | refine blk_alloc ?_ _)); refine blk_far ?_ NB219_211.out _; (with_reducible repeat (first | refine blk_drewN ?_ _ | refine blk_drew ?_ | refine blk_alloc ?_ _)); refine blk_far ?_ NB219_211.out _; (with_reducible repeat (first | refine blk_drewN ?_ _ | refine blk_drew ?_ | refine blk_alloc ?_ _)); refine blk_far ?_ NB219_211.out _; (with_reducible repeat (first | refine blk_drewN ?_ _ | refine blk_drew ?_ | refine blk_alloc ?_ _)); refine blk_far ?_ NB219_211.out _; (with_reducible repeat (first | refine blk_drewN ?_ _ | refine blk_drew ?_ | refine blk_alloc ?_ _)); refine blk_far ?_ NB219_211.out _; (with_reducible repeat (first | refine blk_drewN ?_ _ | refine blk_drew ?_ | refine blk_alloc ?_ _)); refine blk_far ?_ NB219_211.out _; (with_reducible repeat (first | refine blk_drewN ?_ _ | refine blk_drew ?_ | refine blk_alloc ?_ _)); refine blk_far ?_ NB219_211.out _; (with_reducible repeat (first | refine blk_drewN ?_ _ | refine blk_drew ?_ | refine blk_alloc ?_ _)); refine blk_put (cs := #[.int .u8 (rd l0_3 1), .int .u16 (IntKind.u16.wrap (t216)), .bool ((((Int.tdiv (rd l0_3 6) 64) % 256) % 2) == 1), .bool ((((Int.tdiv (rd l0_3 6) 32) % 256) % 2) == 1), .int .i64 (Int.tmod t222 8192), .int .u8 (rd l0_3 8), .int .u8 (rd l0_3 9), .int .u32 ((t223) % 4294967296), .int .u32 ((t224) % 4294967296), .slice A73 y225.length c73, .slice none 0 0]) ?_ 10 _ rfl; (with_reducible repeat (first | refine blk_drewN ?_ _ | refine blk_drew ?_ | refine blk_alloc ?_ _)); refine blk_put (cs := #[.int .u8 (rd l0_3 1), .int .u16 (IntKind.u16.wrap (t216)), .bool ((((Int.tdiv (rd l0_3 6) 64) % 256) % 2) == 1), .bool ((((Int.tdiv (rd l0_3 6) 32) % 256) % 2) == 1), .int .i64 (Int.tmod t222 8192), .int .u8 (rd l0_3 8), .int .u8 (rd l0_3 9), .int .u32 ((t223) % 4294967296), .int .u32 ((t224) % 4294967296), .slice none 0 0, .slice none 0 0]) ?_ 9 _ rfl; (with_reducible repeat (first | refine blk_drewN ?_ _ | refine blk_drew ?_ | refine blk_alloc ?_ _)); exact BK219.out))⟩; have n7_ : Aside0 (Below w.heap.size w w80) := ⟨(by rw [hw]; exact (by repeat (first | (with_reducible first | exact HB.out | apply below_alloc | apply pw_below_drewN | apply below_drew1 | refine below_set ?_ GE210.out | refine below_set ?_ GE211.out | refine below_set ?_ GE219.out) | exact HB.out)))⟩; clear hw; clear HO_4; clear HO_211003; clear HO229; clear HO234; clear BK210; clear BK211; clear BK219; clear HB; have HO_4 := n0_; have HO_211003 := n1_; have HO229 := n2_; have HO234 := n3_; have BK210 := n4_; have BK211 := n5_; have BK219 := n6_; have HB := n7_; clear n0_ n1_ n2_ n3_ n4_ n5_ n6_ n7_))
                   refine bodyPost_ret (results_ct rfl _ _ gb211 37 #[.int .u8 (rd l0_3 1), .int .u16 (IntKind.u16.wrap (t216)), .bool ((((Int.tdiv (rd l0_3 6) 64) % 256) % 2) == 1), .bool ((((Int.tdiv (rd l0_3 6) 32) % 256) % 2) == 1), .int .i64 (Int.tmod t222 8192), .int .u8 (rd l0_3 8), .int .u8 (rd l0_3 9), .int .u32 ((t223) % 4294967296), .int .u32 ((t224) % 4294967296), .slice A73 y225.length c73, .slice A74 y230.length c74] (0, 0) _ rfl (by (with_reducible repeat (first | refine blk_drewN ?_ _ | refine blk_drew ?_ | refine blk_alloc ?_ _)); exact BK211.out) Try.underlying37 rfl (by kernel_rfl)) rfl ?_
                   exact ⟨_, _, by first | rfl | (simp [errW_none, errW_some] <;> rfl) | (simp only [← hji42]; first | rfl | (simp [errW_none, errW_some] <;> rfl)) | (simp [*, errW_none, errW_some] <;> rfl), by (with_reducible repeat (first | apply Kd.V_alloc | apply Kd.V_drewN | apply Kd.V_drew)); exact Kd.V_mono HO229.out (fun _ hk => hk.1), by (with_reducible repeat (first | apply Kd.V_alloc | apply Kd.V_drewN | apply Kd.V_drew)); exact Kd.V_mono HO234.out (fun _ hk => hk.1), by repeat (first | (with_reducible first | exact HB.out | apply below_alloc | apply pw_below_drewN | apply below_drew1 | refine below_set ?_ GE210.out | refine below_set ?_ GE211.out | refine below_set ?_ GE219.out) | exact HB.out)⟩
                  ·
                   rw [if_neg c45] at H
                   exact absurd H (by simp)
                 ·
                  rw [if_neg c44] at H
                  exact absurd H (by simp)
                ·
                 rw [if_neg c43] at H
                 exact absurd H (by simp)
               ·
                rw [if_neg c41] at H
                exact absurd H (by simp)
              ·
               rw [if_neg c40] at H
               exact absurd H (by simp)
             ·
              rw [if_neg c36] at H
              exact absurd H (by simp)
            ·
             rw [if_neg c35] at H
             exact absurd H (by simp)
           ·
            rw [if_neg c34] at H
            exact absurd H (by simp)
          ·
           rw [if_neg c32] at H
           exact absurd H (by simp)
        ·
         rw [if_neg c27] at H
         exact absurd H (by simp)

end Go.Proofs.Ytdphjljbdodonaa.PIcmp
