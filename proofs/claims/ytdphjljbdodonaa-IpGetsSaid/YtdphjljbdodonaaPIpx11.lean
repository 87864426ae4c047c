-- Laid by a program of this session (wip/tools/mk.py) over the kit's print: functions, contracts, walks; not written by hand, not trusted: Lean checks it.
import Derived.Test.YtdphjljbdodonaaPIpx0
import Derived.Test.YtdphjljbdodonaaPIpx10
namespace Go.Proofs.Ytdphjljbdodonaa.PIp
open Go.RowKit Go.Proofs.YtdphjljbdodonaaW.PrintWords Go.Proofs.YtdphjljbdodonaaW.PrintLast Go.Proofs.YtdphjljbdodonaaW.PrintMore
attribute [local go_sem] max2_int min2_int max_two min_two max_three min_three max_four min_four   -- for this text's walks alone
set_option linter.unusedVariables false
set_option linter.unusedSimpArgs false

/-! ### towroperef06_Get: function 37 -/
mutual
def towroperef06_Get.j0 : Nat → List Int → Bool → Option (Int × Int × Bool × Bool × Int × Int × Int × Int × Int × List Int × List Int × Int)
 | 0, _, _ => none
 | k + 1, x0, x20 => if x20 = true then (some (0, 0, false, false, 0, 0, 0, 0, 0, ([] : List Int), ([] : List Int), 3)) else (if 0 < (x0.length : Int) then (if (x0.length : Int) < (wrap64 (4 * (wrap64 ((wrap64 (rd x0 0)) - 64)))) then (some (0, 0, false, false, 0, 0, 0, 0, 0, ([] : List Int), ([] : List Int), 2)) else (if 0 ≤ (wrap64 (4 * (wrap64 ((wrap64 (rd x0 0)) - 64)))) then (if (wrap64 (4 * (wrap64 ((wrap64 (rd x0 0)) - 64)))) ≤ (x0.length : Int) then ((towroperef02_Sum.f k (x0.take ((wrap64 (4 * (wrap64 ((wrap64 (rd x0 0)) - 64)))) : Int).toNat)).bind fun t275 => (if t275 = 65535 then ((towroperef06_number.f x0 2).bind fun t276 => (if t276 < (wrap64 (4 * (wrap64 ((wrap64 (rd x0 0)) - 64)))) then (towroperef06_Get.j1 k x0 (wrap64 (4 * (wrap64 ((wrap64 (rd x0 0)) - 64)))) t276 true) else (if 6 < (x0.length : Int) then (towroperef06_Get.j1 k x0 (wrap64 (4 * (wrap64 ((wrap64 (rd x0 0)) - 64)))) t276 (decide ((rd x0 6) ≥ 128))) else (none)))) else (some (0, 0, false, false, 0, 0, 0, 0, 0, ([] : List Int), ([] : List Int), 4)))) else (none)) else (none))) else (none))
def towroperef06_Get.j1 : Nat → List Int → Int → Int → Bool → Option (Int × Int × Bool × Bool × Int × Int × Int × Int × Int × List Int × List Int × Int)
 | 0, _, _, _, _ => none
 | k + 1, x0, x4, x5, x49 => if x49 = true then (some (0, 0, false, false, 0, 0, 0, 0, 0, ([] : List Int), ([] : List Int), 3)) else (if (x0.length : Int) < x5 then (some (0, 0, false, false, 0, 0, 0, 0, 0, ([] : List Int), ([] : List Int), 2)) else (if 1 < (x0.length : Int) then ((towroperef06_number.f x0 4).bind fun t279 => (if 8 < (x0.length : Int) then (if 9 < (x0.length : Int) then (if 6 < (x0.length : Int) then ((towroperef06_number.f x0 6).bind fun t285 => ((towroperef06_number.f x0 12).bind fun t286 => ((towroperef06_number.f x0 14).bind fun t287 => ((towroperef06_number.f x0 16).bind fun t288 => ((towroperef06_number.f x0 18).bind fun t289 => (if 20 ≤ x4 then (if x4 ≤ (x0.length : Int) then (if 0 ≤ x4 then (if x4 ≤ x5 then (if x5 ≤ (x0.length : Int) then (some (rd x0 1, IntKind.u16.wrap (t279), ((((Int.tdiv (rd x0 6) 64) % 256) % 2) == 1), ((((Int.tdiv (rd x0 6) 32) % 256) % 2) == 1), Int.tmod t285 8192, rd x0 8, rd x0 9, (wrap64 ((wrap64 (65536 * t286)) + t287)) % 4294967296, (wrap64 ((wrap64 (65536 * t288)) + t289)) % 4294967296, ((x0.take (x4 : Int).toNat).drop 20), ((x0.take (x5 : Int).toNat).drop (x4 : Int).toNat), 0)) else (none)) else (none)) else (none)) else (none)) else (none))))))) else (none)) else (none)) else (none))) else (none)))
end
def towroperef06_Get.f (k : Nat) (l0 : List Int) : Option (Int × Int × Bool × Bool × Int × Int × Int × Int × Int × List Int × List Int × Int) := if (l0.length : Int) < 20 then (some (0, 0, false, false, 0, 0, 0, 0, 0, ([] : List Int), ([] : List Int), 2)) else (if 0 < (l0.length : Int) then (if (rd l0 0) < 69 then (towroperef06_Get.j0 k l0 true) else (towroperef06_Get.j0 k l0 (decide ((rd l0 0) > 79)))) else (none))
theorem towroperef06_Get.mono_l : ∀ k, (∀ y0 y1, LeO (towroperef06_Get.j0 k y0 y1) (towroperef06_Get.j0 (k + 1) y0 y1)) ∧ (∀ y0 y1 y2 y3, LeO (towroperef06_Get.j1 k y0 y1 y2 y3) (towroperef06_Get.j1 (k + 1) y0 y1 y2 y3))
 | 0 => ⟨fun _ _ r h => by simp [towroperef06_Get.j0] at h, fun _ _ _ _ r h => by simp [towroperef06_Get.j1] at h⟩
 | k + 1 => by
  obtain ⟨ih0, ih1⟩ := towroperef06_Get.mono_l k
  refine ⟨?_, ?_⟩
  ·
   intro y0 y1
   unfold towroperef06_Get.j0
   repeat' first
   | (with_reducible exact ih0 _ _)
   | (with_reducible exact ih1 _ _ _ _)
   | (with_reducible exact towroperef02_Sum.mono _ _)
   | (with_reducible exact LeO.refl _)
   | (with_reducible exact LeO.none _)
   | (with_reducible refine LeO.ite ?_ ?_)
   | (with_reducible refine LeO.bind ?_ (fun _ => ?_))
   | exact ih0 _ _
   | exact ih1 _ _ _ _
   | exact towroperef02_Sum.mono _ _
   | exact LeO.none _
   | refine LeO.ite ?_ ?_
   | refine LeO.bind ?_ (fun _ => ?_)
  ·
   intro y0 y1 y2 y3
   unfold towroperef06_Get.j1
   repeat' first
   | (with_reducible exact ih0 _ _)
   | (with_reducible exact ih1 _ _ _ _)
   | (with_reducible exact towroperef02_Sum.mono _ _)
   | (with_reducible exact LeO.refl _)
   | (with_reducible exact LeO.none _)
   | (with_reducible refine LeO.ite ?_ ?_)
   | (with_reducible refine LeO.bind ?_ (fun _ => ?_))
   | exact ih0 _ _
   | exact ih1 _ _ _ _
   | exact towroperef02_Sum.mono _ _
   | exact LeO.none _
   | refine LeO.ite ?_ ?_
   | refine LeO.bind ?_ (fun _ => ?_)
theorem towroperef06_Get.mono : ∀ a0 k, LeO (towroperef06_Get.f k a0) (towroperef06_Get.f (k + 1) a0) := by
 intro a0 k
 obtain ⟨ih0, ih1⟩ := towroperef06_Get.mono_l k
 unfold towroperef06_Get.f
 repeat' first
   | (with_reducible exact ih0 _ _)
   | (with_reducible exact ih1 _ _ _ _)
   | (with_reducible exact towroperef02_Sum.mono _ _)
   | (with_reducible exact LeO.refl _)
   | (with_reducible exact LeO.none _)
   | (with_reducible refine LeO.ite ?_ ?_)
   | (with_reducible refine LeO.bind ?_ (fun _ => ?_))
   | exact ih0 _ _
   | exact ih1 _ _ _ _
   | exact towroperef02_Sum.mono _ _
   | exact LeO.none _
   | refine LeO.ite ?_ ?_
   | refine LeO.bind ?_ (fun _ => ?_)
def towroperef06_Get.T15 : Bool × List (List Nat × List Nat) := (true, [([], []), ([0], [0]), ([1], [1]), ([], []), ([3], [3]), ([4], [4]), ([], []), ([6], [6]), ([7], [7]), ([], []), ([9], [9]), ([10], [10]), ([2, 5, 8, 11], [2, 5, 8, 11]), ([], []), ([13, 12, 4, 0, 1, 2, 3, 4, 5, 6, 7, 8, 9, 10, 11, 12, 13], [12, 13])])
def towroperef06_Get.B15 : List Nat := [0, 1, 3, 0, 8, 24, 0, 64, 192, 0, 512, 1536, 4095, 0, 16383]
theorem towroperef06_Get.tab15 : rtab .any (opsOf Try.f37 15) = towroperef06_Get.T15 := by kernel_rfl
theorem towroperef06_Get.bits15 : waitsOk towroperef06_Get.T15.2 towroperef06_Get.B15 = true := by kernel_rfl
def towroperef06_Get.T21 : Bool × List (List Nat × List Nat) := (true, [([], []), ([], []), ([0, 1], [0, 1]), ([], []), ([], []), ([], []), ([3, 4, 5], [3, 4, 5]), ([0, 1, 2], []), ([7, 2, 0, 1, 2], [2, 7]), ([0, 1, 2, 3, 4, 5, 6, 7, 8], []), ([9, 6, 8, 0, 1, 2, 3, 4, 5, 6, 7, 8], [6, 9])])
def towroperef06_Get.B21 : List Nat := [0, 0, 3, 0, 0, 0, 56, 7, 135, 511, 1023]
theorem towroperef06_Get.tab21 : rtab .any (opsOf Try.f37 21) = towroperef06_Get.T21 := by kernel_rfl
theorem towroperef06_Get.bits21 : waitsOk towroperef06_Get.T21.2 towroperef06_Get.B21 = true := by kernel_rfl
set_option maxHeartbeats 8000000 in
set_option maxRecDepth 100000 in
theorem towroperef06_Get.calls (k : Nat) (P0_ : Nat → Prop) (A0 : Option Addr) (c0 : Nat) (l0 : List Int) (r1 : Int) (r2 : Int) (r3 : Bool) (r4 : Bool) (r5 : Int) (r6 : Int) (r7 : Int) (r8 : Int) (r9 : Int) (r10 : List Int) (r11 : List Int) (r12 : Int) (w : World) (hs0 : Kd.V (Kd.int .u8) 5 w w.heap.size (fun k_ => P0_ k_) (.slice A0 l0.length c0) l0) (h : towroperef06_Get.f k l0 = some (r1, r2, r3, r4, r5, r6, r7, r8, r9, r10, r11, r12)) :
  Calls Try.prog 37 #[.slice A0 l0.length c0] w fun e w' => ∃ v9_ v10_ : Value, e = .returned (.tuple #[.agg #[.int .u8 r1, .int .u16 r2, .bool r3, .bool r4, .int .i64 r5, .int .u8 r6, .int .u8 r7, .int .u32 r8, .int .u32 r9, v9_, v10_], .int .i64 r12]) ∧ Kd.V (Kd.int .u8) 5 w' w.heap.size (fun k_ => (P0_ k_ ∨ w.heap.size ≤ k_)) v9_ r10 ∧ Kd.V (Kd.int .u8) 5 w' w.heap.size (fun k_ => (P0_ k_ ∨ w.heap.size ≤ k_)) v10_ r11 ∧ Below w.heap.size w w' := by
 have hu37 := Try.underlying37
 have HO0 := Aside0.mk (show Kd.V (Kd.int .u8) 5 w w.heap.size (fun k_ => (P0_ k_ ∨ w.heap.size ≤ k_)) (.slice A0 l0.length c0) l0 from Kd.V_mono hs0 (fun k_ hk => .inl hk))
 have HB := Aside0.mk (Below.refl w.heap.size w)
 have H : (if (l0.length : Int) < 20 then (some (0, 0, false, false, 0, 0, 0, 0, 0, ([] : List Int), ([] : List Int), 2)) else (if 0 < (l0.length : Int) then (if (rd l0 0) < 69 then (towroperef06_Get.j0 k l0 true) else (towroperef06_Get.j0 k l0 (decide ((rd l0 0) > 79)))) else (none))) = some (r1, r2, r3, r4, r5, r6, r7, r8, r9, r10, r11, r12) := h
 clear h
 by_cases c2 : (l0.length : Int) < 20
 ·
  rw [if_pos c2] at H
  have c2b0 : decide ((l0.length : Int) < 20) = true := decide_eq_true c2
  have c2b1 : decide (l0.length < 20) = true := decide_eq_true (by omega)
  clear c2
  simp only [Option.some.injEq, Prod.mk.injEq] at H
  obtain ⟨rfl, rfl, rfl, rfl, rfl, rfl, rfl, rfl, rfl, rfl, rfl, rfl⟩ := H
  go_enter Try.func37, Try.ntmps37
  go_wp2_with (first | ((with_reducible refine gate_dst (N := 2) rfl ?_); refine box_event ?hg (N := 2) ?hd (cs := #[.int .u8 0, .int .u16 0, .bool false, .bool false, .int .i64 0, .int .u8 0, .int .u8 0, .int .u32 0, .int .u32 0, .slice none 0 0, .slice none 0 0]) (t := 37) ?hr ?_; (case hd => rfl); (case hg => rfl); (case hr => first | (go_simp; done) | (go_simp; rfl)); intro gb266 hg w3 hbox hb; have n0_ := Aside0.mk (Kd.V_below (Kd.V_elderB (by (with_reducible repeat (first | apply Kd.V_alloc | apply Kd.V_drewN | apply Kd.V_drew)); exact HO0.out) gb266 (Nat.le_of_eq hg.symm)) hb); have n1_ := Aside0.mk (below_step (by repeat (first | (with_reducible first | exact HB.out | apply below_alloc | apply pw_below_drewN | apply below_drew1) | exact HB.out)) hb); have n2_ := Aside0.mk (hbox); have n3_ := Aside0.mk ((by rw [hg]; exact (below_size (by repeat (first | (with_reducible first | exact HB.out | apply below_alloc | apply pw_below_drewN | apply below_drew1) | exact HB.out))) : w.heap.size ≤ gb266)); have n4_ := Aside0.mk ((by rw [hg]; exact (below_size (by repeat (first | (with_reducible first | exact HB.out | apply below_alloc | apply pw_below_drewN | apply below_drew1) | exact HB.out))) : w.heap.size ≤ gb266)); clear HO0; clear HB; have HO0 := n0_; have HB := n1_; have BK266 := n2_; have GW266 := n3_; have GE266 := n4_; clear n0_ n1_ n2_ n3_ n4_; clear hb hbox hg; have hcz4_0 : w3.cell? ⟨gb266, 0, none⟩ = some (.int .u8 0) := (blk_cell BK266.out 0).trans rfl; have hcz4_1 : w3.cell? ⟨gb266, 1, none⟩ = some (.int .u16 0) := (blk_cell BK266.out 1).trans rfl; have hcz4_2 : w3.cell? ⟨gb266, 2, none⟩ = some (.bool false) := (blk_cell BK266.out 2).trans rfl; have hcz4_3 : w3.cell? ⟨gb266, 3, none⟩ = some (.bool false) := (blk_cell BK266.out 3).trans rfl; have hcz4_4 : w3.cell? ⟨gb266, 4, none⟩ = some (.int .i64 0) := (blk_cell BK266.out 4).trans rfl; have hcz4_5 : w3.cell? ⟨gb266, 5, none⟩ = some (.int .u8 0) := (blk_cell BK266.out 5).trans rfl; have hcz4_6 : w3.cell? ⟨gb266, 6, none⟩ = some (.int .u8 0) := (blk_cell BK266.out 6).trans rfl; have hcz4_7 : w3.cell? ⟨gb266, 7, none⟩ = some (.int .u32 0) := (blk_cell BK266.out 7).trans rfl; have hcz4_8 : w3.cell? ⟨gb266, 8, none⟩ = some (.int .u32 0) := (blk_cell BK266.out 8).trans rfl; have hcz4_9 : w3.cell? ⟨gb266, 9, none⟩ = some (.slice none 0 0) := (blk_cell BK266.out 9).trans rfl; have hcz4_10 : w3.cell? ⟨gb266, 10, none⟩ = some (.slice none 0 0) := (blk_cell BK266.out 10).trans rfl; have hfz4_0 := blk_frozen BK266.out 0; have hfz4_1 := blk_frozen BK266.out 1; have hfz4_2 := blk_frozen BK266.out 2; have hfz4_3 := blk_frozen BK266.out 3; have hfz4_4 := blk_frozen BK266.out 4; have hfz4_5 := blk_frozen BK266.out 5; have hfz4_6 := blk_frozen BK266.out 6; have hfz4_7 := blk_frozen BK266.out 7; have hfz4_8 := blk_frozen BK266.out 8; have hfz4_9 := blk_frozen BK266.out 9; have hfz4_10 := blk_frozen BK266.out 10) | ((with_reducible refine gate_store (t := 37) (p := 2) rfl ?_); refine store_event (t := 37) (p := 2) (v := ?vo_w5) (w1 := (((((((((((w3.setCell ⟨gb266, 0, none⟩ (.int .u8 0)).setCell ⟨gb266, 1, none⟩ (.int .u16 0)).setCell ⟨gb266, 2, none⟩ (.bool false)).setCell ⟨gb266, 3, none⟩ (.bool false)).setCell ⟨gb266, 4, none⟩ (.int .i64 0)).setCell ⟨gb266, 5, none⟩ (.int .u8 0)).setCell ⟨gb266, 6, none⟩ (.int .u8 0)).setCell ⟨gb266, 7, none⟩ (.int .u32 0)).setCell ⟨gb266, 8, none⟩ (.int .u32 0)).setCell ⟨gb266, 9, none⟩ (.slice none 0 0)).setCell ⟨gb266, 10, none⟩ (.slice none 0 0))) ?hg ?ho ?hn ?hr ?_; (case ho => rfl); (case hg => rfl); (case hn => rfl); (case hr => first | (go_simp; done) | (go_simp; rfl)); intro w5 hw; have n0_ : Aside0 (Kd.V (Kd.int .u8) 5 w5 w.heap.size (fun k_ => (P0_ k_ ∨ w.heap.size ≤ k_) ∧ k_ ≠ gb266) (.slice A0 l0.length c0) l0) := ⟨(by rw [hw]; exact (by (with_reducible repeat (first | apply Kd.V_alloc | apply Kd.V_drewN | apply Kd.V_drew)); exact Kd.V_mono (Kd.V_far (p := ⟨gb266, 10, none⟩) (Kd.V_far (p := ⟨gb266, 9, none⟩) (Kd.V_far (p := ⟨gb266, 8, none⟩) (Kd.V_far (p := ⟨gb266, 7, none⟩) (Kd.V_far (p := ⟨gb266, 6, none⟩) (Kd.V_far (p := ⟨gb266, 5, none⟩) (Kd.V_far (p := ⟨gb266, 4, none⟩) (Kd.V_far (p := ⟨gb266, 3, none⟩) (Kd.V_far (p := ⟨gb266, 2, none⟩) (Kd.V_far (p := ⟨gb266, 1, none⟩) (Kd.V_far (p := ⟨gb266, 0, none⟩) (Kd.V_mono HO0.out (fun k_ hk => (⟨hk, hk.2⟩ : _ ∧ k_ ≠ gb266))) (fun _ hk => hk.2) (.int .u8 0)) (fun _ hk => hk.2) (.int .u16 0)) (fun _ hk => hk.2) (.bool false)) (fun _ hk => hk.2) (.bool false)) (fun _ hk => hk.2) (.int .i64 0)) (fun _ hk => hk.2) (.int .u8 0)) (fun _ hk => hk.2) (.int .u8 0)) (fun _ hk => hk.2) (.int .u32 0)) (fun _ hk => hk.2) (.int .u32 0)) (fun _ hk => hk.2) (.slice none 0 0)) (fun _ hk => hk.2) (.slice none 0 0)) (fun _ hk => ⟨hk.1.1, hk.1.2⟩)))⟩; have n1_ : Aside0 (w5.heap[gb266]? = some (.cells #[.int .u8 0, .int .u16 0, .bool false, .bool false, .int .i64 0, .int .u8 0, .int .u8 0, .int .u32 0, .int .u32 0, .slice none 0 0, .slice none 0 0] 37 (0, 0))) := ⟨(by rw [hw]; exact (by (with_reducible repeat (first | refine blk_drewN ?_ _ | refine blk_drew ?_ | refine blk_alloc ?_ _)); refine blk_put (cs := #[.int .u8 0, .int .u16 0, .bool false, .bool false, .int .i64 0, .int .u8 0, .int .u8 0, .int .u32 0, .int .u32 0, .slice none 0 0, .slice none 0 0]) ?_ 10 _ rfl; (with_reducible repeat (first | refine blk_drewN ?_ _ | refine blk_drew ?_ | refine blk_alloc ?_ _)); refine blk_put (cs := #[.int .u8 0, .int .u16 0, .bool false, .bool false, .int .i64 0, .int .u8 0, .int .u8 0, .int .u32 0, .int .u32 0, .slice none 0 0, .slice none 0 0]) ?_ 9 _ rfl; (with_reducible repeat (first | refine blk_drewN ?_ _ | refine blk_drew ?_ | refine blk_alloc ?_ _)); refine blk_put (cs := #[.int .u8 0, .int .u16 0, .bool false, .bool false, .int .i64 0, .int .u8 0, .int .u8 0, .int .u32 0, .int .u32 0, .slice none 0 0, .slice none 0 0]) ?_ 8 _ rfl; (with_reducible repeat (first | refine blk_drewN ?_ _ | refine blk_drew ?_ | refine blk_alloc ?_ _)); refine blk_put (cs := #[.int .u8 0, .int .u16 0, .bool false, .bool false, .int .i64 0, .int .u8 0, .int .u8 0, .int .u32 0, .int .u32 0, .slice none 0 0, .slice none 0 0]) ?_ 7 _ rfl; (with_reducible repeat (first | refine blk_drewN ?_ _ | refine blk_drew ?_ | refine blk_alloc ?_ _)); refine blk_put (cs := #[.int .u8 0, .int .u16 0, .bool false, .bool false, .int .i64 0, .int .u8 0, .int .u8 0, .int .u32 0, .int .u32 0, .slice none 0 0, .slice none 0 0]) ?_ 6 _ rfl; (with_reducible repeat (first | refine blk_drewN ?_ _ | refine blk_drew ?_ | refine blk_alloc ?_ _)); refine blk_put (cs := #[.int .u8 0, .int .u16 0, .bool false, .bool false, .int .i64 0, .int .u8 0, .int .u8 0, .int .u32 0, .int .u32 0, .slice none 0 0, .slice none 0 0]) ?_ 5 _ rfl; (with_reducible repeat (first | refine blk_drewN ?_ _ | refine blk_drew ?_ | refine blk_alloc ?_ _)); refine blk_put (cs := #[.int .u8 0, .int .u16 0, .bool false, .bool false, .int .i64 0, .int .u8 0, .int .u8 0, .int .u32 0, .int .u32 0, .slice none 0 0, .slice none 0 0]) ?_ 4 _ rfl; (with_reducible repeat (first | refine blk_drewN ?_ _ | refine blk_drew ?_ | refine blk_alloc ?_ _)); refine blk_put (cs := #[.int .u8 0, .int .u16 0, .bool false, .bool false, .int .i64 0, .int .u8 0, .int .u8 0, .int .u32 0, .int .u32 0, .slice none 0 0, .slice none 0 0]) ?_ 3 _ rfl; (with_reducible repeat (first | refine blk_drewN ?_ _ | refine blk_drew ?_ | refine blk_alloc ?_ _)); refine blk_put (cs := #[.int .u8 0, .int .u16 0, .bool false, .bool false, .int .i64 0, .int .u8 0, .int .u8 0, .int .u32 0, .int .u32 0, .slice none 0 0, .slice none 0 0]) ?_ 2 _ rfl; (with_reducible repeat (first | refine blk_drewN ?_ _ | refine blk_drew ?_ | refine blk_alloc ?_ _)); refine blk_put (cs := #[.int .u8 0, .int .u16 0, .bool false, .bool false, .int .i64 0, .int .u8 0, .int .u8 0, .int .u32 0, .int .u32 0, .slice none 0 0, .slice none 0 0]) ?_ 1 _ rfl; (with_reducible repeat (first | refine blk_drewN ?_ _ | refine blk_drew ?_ | refine blk_alloc ?_ _)); refine blk_put (cs := #[.int .u8 0, .int .u16 0, .bool false, .bool false, .int .i64 0, .int .u8 0, .int .u8 0, .int .u32 0, .int .u32 0, .slice none 0 0, .slice none 0 0]) ?_ 0 _ rfl; (with_reducible repeat (first | refine blk_drewN ?_ _ | refine blk_drew ?_ | refine blk_alloc ?_ _)); exact BK266.out))⟩; have n2_ : Aside0 (Below w.heap.size w w5) := ⟨(by rw [hw]; exact (by repeat (first | (with_reducible first | exact HB.out | apply below_alloc | apply pw_below_drewN | apply below_drew1 | refine below_set ?_ GE266.out) | exact HB.out)))⟩; clear hw; clear HO0; clear BK266; clear HB; have HO0 := n0_; have BK266 := n1_; have HB := n2_; clear n0_ n1_ n2_))
  refine bodyPost_ret (results_ct rfl _ _ gb266 37 #[.int .u8 0, .int .u16 0, .bool false, .bool false, .int .i64 0, .int .u8 0, .int .u8 0, .int .u32 0, .int .u32 0, .slice none 0 0, .slice none 0 0] (0, 0) _ rfl (by (with_reducible repeat (first | refine blk_drewN ?_ _ | refine blk_drew ?_ | refine blk_alloc ?_ _)); exact BK266.out) Try.underlying37 rfl (by kernel_rfl)) rfl ?_
  exact ⟨_, _, by first | rfl | (simp [errW_none, errW_some] <;> rfl) | (simp [*, errW_none, errW_some] <;> rfl), Kd.V_nil _ _ _ _ _, Kd.V_nil _ _ _ _ _, by repeat (first | (with_reducible first | exact HB.out | apply below_alloc | apply pw_below_drewN | apply below_drew1 | refine below_set ?_ GE266.out) | exact HB.out)⟩
 ·
  rw [if_neg c2] at H
  have c2b0 : decide ((l0.length : Int) < 20) = false := decide_eq_false c2
  have c2b1 : decide (l0.length < 20) = false := decide_eq_false (by omega)
  clear c2
  have HC6 := Aside0.mk H
  clear H
  go_enter Try.func37, Try.ntmps37
  go_upto_region 3 with (first | ((with_reducible refine gate_dst (N := 2) rfl ?_); refine box_event ?hg (N := 2) ?hd (cs := #[.int .u8 0, .int .u16 0, .bool false, .bool false, .int .i64 0, .int .u8 0, .int .u8 0, .int .u32 0, .int .u32 0, .slice none 0 0, .slice none 0 0]) (t := 37) ?hr ?_; (case hd => rfl); (case hg => rfl); (case hr => first | (go_simp; done) | (go_simp; rfl)); intro gb266 hg w7 hbox hb; have n0_ := Aside0.mk (Kd.V_below (Kd.V_elderB (by (with_reducible repeat (first | apply Kd.V_alloc | apply Kd.V_drewN | apply Kd.V_drew)); exact HO0.out) gb266 (Nat.le_of_eq hg.symm)) hb); have n1_ := Aside0.mk (below_step (by repeat (first | (with_reducible first | exact HB.out | apply below_alloc | apply pw_below_drewN | apply below_drew1) | exact HB.out)) hb); have n2_ := Aside0.mk (hbox); have n3_ := Aside0.mk ((by rw [hg]; exact (below_size (by repeat (first | (with_reducible first | exact HB.out | apply below_alloc | apply pw_below_drewN | apply below_drew1) | exact HB.out))) : w.heap.size ≤ gb266)); have n4_ := Aside0.mk ((by rw [hg]; exact (below_size (by repeat (first | (with_reducible first | exact HB.out | apply below_alloc | apply pw_below_drewN | apply below_drew1) | exact HB.out))) : w.heap.size ≤ gb266)); clear HO0; clear HB; have HO0 := n0_; have HB := n1_; have BK266 := n2_; have GW266 := n3_; have GE266 := n4_; clear n0_ n1_ n2_ n3_ n4_; clear hb hbox hg))
  (try simp only [Act.put, List.setIfInBounds_toArray, List.set_cons_zero, List.set_cons_succ])
  go_cut [20] (fun v20 wc => ∃ (kq : Nat) (x20_5 : Bool), v20 = .bool x20_5 ∧ Aside0 (towroperef06_Get.j0 kq l0 x20_5 = some (r1, r2, r3, r4, r5, r6, r7, r8, r9, r10, r11, r12)) ∧ Aside0 (kq ≤ k) ∧ Aside0 (Kd.V (Kd.int .u8) 5 wc w.heap.size (fun k_ => (P0_ k_ ∨ w.heap.size ≤ k_) ∧ k_ ≠ gb266) (.slice A0 l0.length c0) l0) ∧ Aside0 (wc.heap[gb266]? = some (.cells #[.int .u8 0, .int .u16 0, .bool false, .bool false, .int .i64 0, .int .u8 0, .int .u8 0, .int .u32 0, .int .u32 0, (.slice none 0 0), (.slice none 0 0)] 37 (0, 0))) ∧ Aside0 (Below w.heap.size w wc))
  case first =>
   have H := HC6.out
   clear HC6
   by_cases c8 : 0 < (l0.length : Int)
   ·
    rw [if_pos c8] at H
    have c8b0 : decide (0 < (l0.length : Int)) = true := decide_eq_true c8
    have c8b1 : decide (0 < l0.length) = true := decide_eq_true (by omega)
    clear c8
    (first | rw [c8b0] | (simp only [i64_w, i32_w]; rw [c8b0]) | skip)
    by_cases c9 : (rd l0 0) < 69
    ·
     rw [if_pos c9] at H
     have c9b0 : decide ((rd l0 0) < 69) = true := decide_eq_true c9
     clear c9
     have H' := Aside0.mk H
     clear H
     have p267 : 0 ≤ (0 : Int) := (by omega)
     have q267 : 0 < (l0.length : Int) := of_decide_eq_true (by first | (with_reducible assumption) | assumption)
     obtain ⟨ad267, e267, hx267_0⟩ := Kd.at_int (Kd.V_reads' HO0.out).2.2 0 p267 q267
     cases e267
     have qi267 : (0 < l0.length) = True := eq_true (by omega)
     (try rw [show ((0 : Int)).toNat = 0 from rfl] at hx267_0)
     (try rw [Addr.add_zero'] at hx267_0)
     replace p267 := eq_true p267
     replace q267 := eq_true q267
     go_wp2
     go_meet
     case rel => exact ⟨_, (true), (by first | rfl | (simp; done) | (simp [*]; done)), H', ⟨by first | omega | exact Nat.le_refl _⟩, ⟨by (with_reducible repeat (first | apply Kd.V_alloc | apply Kd.V_drewN | apply Kd.V_drew)); exact HO0.out⟩, ⟨by (with_reducible repeat (first | refine blk_drewN ?_ _ | refine blk_drew ?_ | refine blk_alloc ?_ _)); exact BK266.out⟩, ⟨by repeat (first | (with_reducible first | exact HB.out | apply below_alloc | apply pw_below_drewN | apply below_drew1 | refine below_set ?_ GE266.out) | exact HB.out)⟩⟩
    ·
     rw [if_neg c9] at H
     have c9b0 : decide ((rd l0 0) < 69) = false := decide_eq_false c9
     clear c9
     have H' := Aside0.mk H
     clear H
     have p267 : 0 ≤ (0 : Int) := (by omega)
     have q267 : 0 < (l0.length : Int) := of_decide_eq_true (by first | (with_reducible assumption) | assumption)
     obtain ⟨ad267, e267, hx267_0⟩ := Kd.at_int (Kd.V_reads' HO0.out).2.2 0 p267 q267
     cases e267
     have qi267 : (0 < l0.length) = True := eq_true (by omega)
     (try rw [show ((0 : Int)).toNat = 0 from rfl] at hx267_0)
     (try rw [Addr.add_zero'] at hx267_0)
     replace p267 := eq_true p267
     replace q267 := eq_true q267
     have p268 : 0 ≤ (0 : Int) := (by omega)
     have q268 : 0 < (l0.length : Int) := of_decide_eq_true (by first | (with_reducible assumption) | assumption)
     obtain ⟨ad268, e268, hx268_0⟩ := Kd.at_int (Kd.V_reads' HO0.out).2.2 0 p268 q268
     obtain rfl : ad267 = ad268 := (by injection e268)
     have qi268 : (0 < l0.length) = True := eq_true (by omega)
     (try rw [show ((0 : Int)).toNat = 0 from rfl] at hx268_0)
     (try rw [Addr.add_zero'] at hx268_0)
     replace p268 := eq_true p268
     replace q268 := eq_true q268
     go_wp2
     go_meet
     case rel => exact ⟨_, (decide ((rd l0 0) > 79)), (by first | rfl | (simp; done) | (simp [*]; done)), H', ⟨by first | omega | exact Nat.le_refl _⟩, ⟨by (with_reducible repeat (first | apply Kd.V_alloc | apply Kd.V_drewN | apply Kd.V_drew)); exact HO0.out⟩, ⟨by (with_reducible repeat (first | refine blk_drewN ?_ _ | refine blk_drew ?_ | refine blk_alloc ?_ _)); exact BK266.out⟩, ⟨by repeat (first | (with_reducible first | exact HB.out | apply below_alloc | apply pw_below_drewN | apply below_drew1 | refine below_set ?_ GE266.out) | exact HB.out)⟩⟩
   ·
    rw [if_neg c8] at H
    exact absurd H (by simp)
  case rest =>
   clear HC6
   try clear c2
   try clear c2b0
   try clear c2b1
   try clear p2
   try clear q2
   try clear hx2
   try clear qi2
   try clear c3
   try clear c8
   try clear c8b0
   try clear c8b1
   try clear c9
   try clear c9b0
   try clear hcz4_0
   try clear hcz4_1
   try clear hcz4_10
   try clear hcz4_2
   try clear hcz4_3
   try clear hcz4_4
   try clear hcz4_5
   try clear hcz4_6
   try clear hcz4_7
   try clear hcz4_8
   try clear hcz4_9
   try clear hfz4_0
   try clear hfz4_1
   try clear hfz4_10
   try clear hfz4_2
   try clear hfz4_3
   try clear hfz4_4
   try clear hfz4_5
   try clear hfz4_6
   try clear hfz4_7
   try clear hfz4_8
   try clear hfz4_9
   try clear hx267_0
   try clear hx268_0
   try clear p267
   try clear p268
   try clear q267
   try clear q268
   obtain ⟨kq, x20_5, rfl, HA, HJ5, HO_0, BK266, HB⟩ := hcut
   cases kq with
   | zero => exact absurd HA.out (by simp [towroperef06_Get.j0])
   | succ kj5 =>
    have H := HA.out
    clear HA
    simp only [towroperef06_Get.j0] at H
    by_cases c10 : x20_5 = true
    ·
     subst c10
     have H1 : (some (0, 0, false, false, 0, 0, 0, 0, 0, ([] : List Int), ([] : List Int), 3)) = some (r1, r2, r3, r4, r5, r6, r7, r8, r9, r10, r11, r12) := by rw [if_pos rfl] at H; exact H
     clear H
     have H := H1
     clear H1
     simp only [Option.some.injEq, Prod.mk.injEq] at H
     obtain ⟨rfl, rfl, rfl, rfl, rfl, rfl, rfl, rfl, rfl, rfl, rfl, rfl⟩ := H
     have hcz11_0 : wc.cell? ⟨gb266, 0, none⟩ = some (.int .u8 0) := (blk_cell BK266.out 0).trans rfl
     have hcz11_1 : wc.cell? ⟨gb266, 1, none⟩ = some (.int .u16 0) := (blk_cell BK266.out 1).trans rfl
     have hcz11_2 : wc.cell? ⟨gb266, 2, none⟩ = some (.bool false) := (blk_cell BK266.out 2).trans rfl
     have hcz11_3 : wc.cell? ⟨gb266, 3, none⟩ = some (.bool false) := (blk_cell BK266.out 3).trans rfl
     have hcz11_4 : wc.cell? ⟨gb266, 4, none⟩ = some (.int .i64 0) := (blk_cell BK266.out 4).trans rfl
     have hcz11_5 : wc.cell? ⟨gb266, 5, none⟩ = some (.int .u8 0) := (blk_cell BK266.out 5).trans rfl
     have hcz11_6 : wc.cell? ⟨gb266, 6, none⟩ = some (.int .u8 0) := (blk_cell BK266.out 6).trans rfl
     have hcz11_7 : wc.cell? ⟨gb266, 7, none⟩ = some (.int .u32 0) := (blk_cell BK266.out 7).trans rfl
     have hcz11_8 : wc.cell? ⟨gb266, 8, none⟩ = some (.int .u32 0) := (blk_cell BK266.out 8).trans rfl
     have hcz11_9 : wc.cell? ⟨gb266, 9, none⟩ = some (.slice none 0 0) := (blk_cell BK266.out 9).trans rfl
     have hcz11_10 : wc.cell? ⟨gb266, 10, none⟩ = some (.slice none 0 0) := (blk_cell BK266.out 10).trans rfl
     have hfz11_0 := blk_frozen BK266.out 0
     have hfz11_1 := blk_frozen BK266.out 1
     have hfz11_2 := blk_frozen BK266.out 2
     have hfz11_3 := blk_frozen BK266.out 3
     have hfz11_4 := blk_frozen BK266.out 4
     have hfz11_5 := blk_frozen BK266.out 5
     have hfz11_6 := blk_frozen BK266.out 6
     have hfz11_7 := blk_frozen BK266.out 7
     have hfz11_8 := blk_frozen BK266.out 8
     have hfz11_9 := blk_frozen BK266.out 9
     have hfz11_10 := blk_frozen BK266.out 10
     go_wp2_with (first | ((with_reducible refine gate_store (t := 37) (p := 2) rfl ?_); refine store_event (t := 37) (p := 2) (v := ?vo_w12) (w1 := (((((((((((wc.setCell ⟨gb266, 0, none⟩ (.int .u8 0)).setCell ⟨gb266, 1, none⟩ (.int .u16 0)).setCell ⟨gb266, 2, none⟩ (.bool false)).setCell ⟨gb266, 3, none⟩ (.bool false)).setCell ⟨gb266, 4, none⟩ (.int .i64 0)).setCell ⟨gb266, 5, none⟩ (.int .u8 0)).setCell ⟨gb266, 6, none⟩ (.int .u8 0)).setCell ⟨gb266, 7, none⟩ (.int .u32 0)).setCell ⟨gb266, 8, none⟩ (.int .u32 0)).setCell ⟨gb266, 9, none⟩ (.slice none 0 0)).setCell ⟨gb266, 10, none⟩ (.slice none 0 0))) ?hg ?ho ?hn ?hr ?_; (case ho => rfl); (case hg => rfl); (case hn => rfl); (case hr => first | (go_simp; done) | (go_simp; rfl)); intro w12 hw; have n0_ : Aside0 (Kd.V (Kd.int .u8) 5 w12 w.heap.size (fun k_ => (P0_ k_ ∨ w.heap.size ≤ k_) ∧ k_ ≠ gb266) (.slice A0 l0.length c0) l0) := ⟨(by rw [hw]; exact (by (with_reducible repeat (first | apply Kd.V_alloc | apply Kd.V_drewN | apply Kd.V_drew)); exact Kd.V_mono (Kd.V_far (p := ⟨gb266, 10, none⟩) (Kd.V_far (p := ⟨gb266, 9, none⟩) (Kd.V_far (p := ⟨gb266, 8, none⟩) (Kd.V_far (p := ⟨gb266, 7, none⟩) (Kd.V_far (p := ⟨gb266, 6, none⟩) (Kd.V_far (p := ⟨gb266, 5, none⟩) (Kd.V_far (p := ⟨gb266, 4, none⟩) (Kd.V_far (p := ⟨gb266, 3, none⟩) (Kd.V_far (p := ⟨gb266, 2, none⟩) (Kd.V_far (p := ⟨gb266, 1, none⟩) (Kd.V_far (p := ⟨gb266, 0, none⟩) (Kd.V_mono HO_0.out (fun k_ hk => (⟨hk, hk.2⟩ : _ ∧ k_ ≠ gb266))) (fun _ hk => hk.2) (.int .u8 0)) (fun _ hk => hk.2) (.int .u16 0)) (fun _ hk => hk.2) (.bool false)) (fun _ hk => hk.2) (.bool false)) (fun _ hk => hk.2) (.int .i64 0)) (fun _ hk => hk.2) (.int .u8 0)) (fun _ hk => hk.2) (.int .u8 0)) (fun _ hk => hk.2) (.int .u32 0)) (fun _ hk => hk.2) (.int .u32 0)) (fun _ hk => hk.2) (.slice none 0 0)) (fun _ hk => hk.2) (.slice none 0 0)) (fun _ hk => ⟨hk.1.1, hk.1.2⟩)))⟩; have n1_ : Aside0 (w12.heap[gb266]? = some (.cells #[.int .u8 0, .int .u16 0, .bool false, .bool false, .int .i64 0, .int .u8 0, .int .u8 0, .int .u32 0, .int .u32 0, .slice none 0 0, .slice none 0 0] 37 (0, 0))) := ⟨(by rw [hw]; exact (by (with_reducible repeat (first | refine blk_drewN ?_ _ | refine blk_drew ?_ | refine blk_alloc ?_ _)); refine blk_put (cs := #[.int .u8 0, .int .u16 0, .bool false, .bool false, .int .i64 0, .int .u8 0, .int .u8 0, .int .u32 0, .int .u32 0, .slice none 0 0, .slice none 0 0]) ?_ 10 _ rfl; (with_reducible repeat (first | refine blk_drewN ?_ _ | refine blk_drew ?_ | refine blk_alloc ?_ _)); refine blk_put (cs := #[.int .u8 0, .int .u16 0, .bool false, .bool false, .int .i64 0, .int .u8 0, .int .u8 0, .int .u32 0, .int .u32 0, .slice none 0 0, .slice none 0 0]) ?_ 9 _ rfl; (with_reducible repeat (first | refine blk_drewN ?_ _ | refine blk_drew ?_ | refine blk_alloc ?_ _)); refine blk_put (cs := #[.int .u8 0, .int .u16 0, .bool false, .bool false, .int .i64 0, .int .u8 0, .int .u8 0, .int .u32 0, .int .u32 0, .slice none 0 0, .slice none 0 0]) ?_ 8 _ rfl; (with_reducible repeat (first | refine blk_drewN ?_ _ | refine blk_drew ?_ | refine blk_alloc ?_ _)); refine blk_put (cs := #[.int .u8 0, .int .u16 0, .bool false, .bool false, .int .i64 0, .int .u8 0, .int .u8 0, .int .u32 0, .int .u32 0, .slice none 0 0, .slice none 0 0]) ?_ 7 _ rfl; (with_reducible repeat (first | refine blk_drewN ?_ _ | refine blk_drew ?_ | refine blk_alloc ?_ _)); refine blk_put (cs := #[.int .u8 0, .int .u16 0, .bool false, .bool false, .int .i64 0, .int .u8 0, .int .u8 0, .int .u32 0, .int .u32 0, .slice none 0 0, .slice none 0 0]) ?_ 6 _ rfl; (with_reducible repeat (first | refine blk_drewN ?_ _ | refine blk_drew ?_ | refine blk_alloc ?_ _)); refine blk_put (cs := #[.int .u8 0, .int .u16 0, .bool false, .bool false, .int .i64 0, .int .u8 0, .int .u8 0, .int .u32 0, .int .u32 0, .slice none 0 0, .slice none 0 0]) ?_ 5 _ rfl; (with_reducible repeat (first | refine blk_drewN ?_ _ | refine blk_drew ?_ | refine blk_alloc ?_ _)); refine blk_put (cs := #[.int .u8 0, .int .u16 0, .bool false, .bool false, .int .i64 0, .int .u8 0, .int .u8 0, .int .u32 0, .int .u32 0, .slice none 0 0, .slice none 0 0]) ?_ 4 _ rfl; (with_reducible repeat (first | refine blk_drewN ?_ _ | refine blk_drew ?_ | refine blk_alloc ?_ _)); refine blk_put (cs := #[.int .u8 0, .int .u16 0, .bool false, .bool false, .int .i64 0, .int .u8 0, .int .u8 0, .int .u32 0, .int .u32 0, .slice none 0 0, .slice none 0 0]) ?_ 3 _ rfl; (with_reducible repeat (first | refine blk_drewN ?_ _ | refine blk_drew ?_ | refine blk_alloc ?_ _)); refine blk_put (cs := #[.int .u8 0, .int .u16 0, .bool false, .bool false, .int .i64 0, .int .u8 0, .int .u8 0, .int .u32 0, .int .u32 0, .slice none 0 0, .slice none 0 0]) ?_ 2 _ rfl; (with_reducible repeat (first | refine blk_drewN ?_ _ | refine blk_drew ?_ | refine blk_alloc ?_ _)); refine blk_put (cs := #[.int .u8 0, .int .u16 0, .bool false, .bool false, .int .i64 0, .int .u8 0, .int .u8 0, .int .u32 0, .int .u32 0, .slice none 0 0, .slice none 0 0]) ?_ 1 _ rfl; (with_reducible repeat (first | refine blk_drewN ?_ _ | refine blk_drew ?_ | refine blk_alloc ?_ _)); refine blk_put (cs := #[.int .u8 0, .int .u16 0, .bool false, .bool false, .int .i64 0, .int .u8 0, .int .u8 0, .int .u32 0, .int .u32 0, .slice none 0 0, .slice none 0 0]) ?_ 0 _ rfl; (with_reducible repeat (first | refine blk_drewN ?_ _ | refine blk_drew ?_ | refine blk_alloc ?_ _)); exact BK266.out))⟩; have n2_ : Aside0 (Below w.heap.size w w12) := ⟨(by rw [hw]; exact (by repeat (first | (with_reducible first | exact HB.out | apply below_alloc | apply pw_below_drewN | apply below_drew1 | refine below_set ?_ GE266.out) | exact HB.out)))⟩; clear hw; clear HO_0; clear BK266; clear HB; have HO_0 := n0_; have BK266 := n1_; have HB := n2_; clear n0_ n1_ n2_))
     refine bodyPost_ret (results_ct rfl _ _ gb266 37 #[.int .u8 0, .int .u16 0, .bool false, .bool false, .int .i64 0, .int .u8 0, .int .u8 0, .int .u32 0, .int .u32 0, .slice none 0 0, .slice none 0 0] (0, 0) _ rfl (by (with_reducible repeat (first | refine blk_drewN ?_ _ | refine blk_drew ?_ | refine blk_alloc ?_ _)); exact BK266.out) Try.underlying37 rfl (by kernel_rfl)) rfl ?_
     exact ⟨_, _, by first | rfl | (simp [errW_none, errW_some] <;> rfl) | (simp [*, errW_none, errW_some] <;> rfl), Kd.V_nil _ _ _ _ _, Kd.V_nil _ _ _ _ _, by repeat (first | (with_reducible first | exact HB.out | apply below_alloc | apply pw_below_drewN | apply below_drew1 | refine below_set ?_ GE266.out) | exact HB.out)⟩
    ·
     replace c10 := Bool.eq_false_iff.mpr c10
     subst c10
     have H1 : (if 0 < (l0.length : Int) then (if (l0.length : Int) < (wrap64 (4 * (wrap64 ((wrap64 (rd l0 0)) - 64)))) then (some (0, 0, false, false, 0, 0, 0, 0, 0, ([] : List Int), ([] : List Int), 2)) else (if 0 ≤ (wrap64 (4 * (wrap64 ((wrap64 (rd l0 0)) - 64)))) then (if (wrap64 (4 * (wrap64 ((wrap64 (rd l0 0)) - 64)))) ≤ (l0.length : Int) then ((towroperef02_Sum.f kj5 (l0.take ((wrap64 (4 * (wrap64 ((wrap64 (rd l0 0)) - 64)))) : Int).toNat)).bind fun t275 => (if t275 = 65535 then ((towroperef06_number.f l0 2).bind fun t276 => (if t276 < (wrap64 (4 * (wrap64 ((wrap64 (rd l0 0)) - 64)))) then (towroperef06_Get.j1 kj5 l0 (wrap64 (4 * (wrap64 ((wrap64 (rd l0 0)) - 64)))) t276 true) else (if 6 < (l0.length : Int) then (towroperef06_Get.j1 kj5 l0 (wrap64 (4 * (wrap64 ((wrap64 (rd l0 0)) - 64)))) t276 (decide ((rd l0 6) ≥ 128))) else (none)))) else (some (0, 0, false, false, 0, 0, 0, 0, 0, ([] : List Int), ([] : List Int), 4)))) else (none)) else (none))) else (none)) = some (r1, r2, r3, r4, r5, r6, r7, r8, r9, r10, r11, r12) := by rw [if_neg (show ¬ (false = true) by decide)] at H; exact H
     clear H
     have H := H1
     clear H1
     by_cases c13 : 0 < (l0.length : Int)
     ·
      rw [if_pos c13] at H
      have c13b0 : decide (0 < (l0.length : Int)) = true := decide_eq_true c13
      have c13b1 : decide (0 < l0.length) = true := decide_eq_true (by omega)
      clear c13
      by_cases c14 : (l0.length : Int) < (wrap64 (4 * (wrap64 ((wrap64 (rd l0 0)) - 64))))
      ·
       rw [if_pos c14] at H
       have c14b0 : decide ((l0.length : Int) < (wrap64 (4 * (wrap64 ((wrap64 (rd l0 0)) - 64))))) = true := decide_eq_true c14
       clear c14
       simp only [Option.some.injEq, Prod.mk.injEq] at H
       obtain ⟨rfl, rfl, rfl, rfl, rfl, rfl, rfl, rfl, rfl, rfl, rfl, rfl⟩ := H
       have p269 : 0 ≤ (0 : Int) := (by omega)
       have q269 : 0 < (l0.length : Int) := of_decide_eq_true (by first | (with_reducible assumption) | assumption)
       obtain ⟨ad269, e269, hx269_0⟩ := Kd.at_int (Kd.V_reads' HO_0.out).2.2 0 p269 q269
       cases e269
       have qi269 : (0 < l0.length) = True := eq_true (by omega)
       (try rw [show ((0 : Int)).toNat = 0 from rfl] at hx269_0)
       (try rw [Addr.add_zero'] at hx269_0)
       replace p269 := eq_true p269
       replace q269 := eq_true q269
       have hcz15_0 : wc.cell? ⟨gb266, 0, none⟩ = some (.int .u8 0) := (blk_cell BK266.out 0).trans rfl
       have hcz15_1 : wc.cell? ⟨gb266, 1, none⟩ = some (.int .u16 0) := (blk_cell BK266.out 1).trans rfl
       have hcz15_2 : wc.cell? ⟨gb266, 2, none⟩ = some (.bool false) := (blk_cell BK266.out 2).trans rfl
       have hcz15_3 : wc.cell? ⟨gb266, 3, none⟩ = some (.bool false) := (blk_cell BK266.out 3).trans rfl
       have hcz15_4 : wc.cell? ⟨gb266, 4, none⟩ = some (.int .i64 0) := (blk_cell BK266.out 4).trans rfl
       have hcz15_5 : wc.cell? ⟨gb266, 5, none⟩ = some (.int .u8 0) := (blk_cell BK266.out 5).trans rfl
       have hcz15_6 : wc.cell? ⟨gb266, 6, none⟩ = some (.int .u8 0) := (blk_cell BK266.out 6).trans rfl
       have hcz15_7 : wc.cell? ⟨gb266, 7, none⟩ = some (.int .u32 0) := (blk_cell BK266.out 7).trans rfl
       have hcz15_8 : wc.cell? ⟨gb266, 8, none⟩ = some (.int .u32 0) := (blk_cell BK266.out 8).trans rfl
       have hcz15_9 : wc.cell? ⟨gb266, 9, none⟩ = some (.slice none 0 0) := (blk_cell BK266.out 9).trans rfl
       have hcz15_10 : wc.cell? ⟨gb266, 10, none⟩ = some (.slice none 0 0) := (blk_cell BK266.out 10).trans rfl
       have hfz15_0 := blk_frozen BK266.out 0
       have hfz15_1 := blk_frozen BK266.out 1
       have hfz15_2 := blk_frozen BK266.out 2
       have hfz15_3 := blk_frozen BK266.out 3
       have hfz15_4 := blk_frozen BK266.out 4
       have hfz15_5 := blk_frozen BK266.out 5
       have hfz15_6 := blk_frozen BK266.out 6
       have hfz15_7 := blk_frozen BK266.out 7
       have hfz15_8 := blk_frozen BK266.out 8
       have hfz15_9 := blk_frozen BK266.out 9
       have hfz15_10 := blk_frozen BK266.out 10
       go_wp2_with (first | ((with_reducible refine gate_store (t := 37) (p := 2) rfl ?_); refine store_event (t := 37) (p := 2) (v := ?vo_w16) (w1 := (((((((((((wc.setCell ⟨gb266, 0, none⟩ (.int .u8 0)).setCell ⟨gb266, 1, none⟩ (.int .u16 0)).setCell ⟨gb266, 2, none⟩ (.bool false)).setCell ⟨gb266, 3, none⟩ (.bool false)).setCell ⟨gb266, 4, none⟩ (.int .i64 0)).setCell ⟨gb266, 5, none⟩ (.int .u8 0)).setCell ⟨gb266, 6, none⟩ (.int .u8 0)).setCell ⟨gb266, 7, none⟩ (.int .u32 0)).setCell ⟨gb266, 8, none⟩ (.int .u32 0)).setCell ⟨gb266, 9, none⟩ (.slice none 0 0)).setCell ⟨gb266, 10, none⟩ (.slice none 0 0))) ?hg ?ho ?hn ?hr ?_; (case ho => rfl); (case hg => rfl); (case hn => rfl); (case hr => first | (go_simp; done) | (go_simp; rfl)); intro w16 hw; have n0_ : Aside0 (Kd.V (Kd.int .u8) 5 w16 w.heap.size (fun k_ => (P0_ k_ ∨ w.heap.size ≤ k_) ∧ k_ ≠ gb266) (.slice (some ad269) l0.length c0) l0) := ⟨(by rw [hw]; exact (by (with_reducible repeat (first | apply Kd.V_alloc | apply Kd.V_drewN | apply Kd.V_drew)); exact Kd.V_mono (Kd.V_far (p := ⟨gb266, 10, none⟩) (Kd.V_far (p := ⟨gb266, 9, none⟩) (Kd.V_far (p := ⟨gb266, 8, none⟩) (Kd.V_far (p := ⟨gb266, 7, none⟩) (Kd.V_far (p := ⟨gb266, 6, none⟩) (Kd.V_far (p := ⟨gb266, 5, none⟩) (Kd.V_far (p := ⟨gb266, 4, none⟩) (Kd.V_far (p := ⟨gb266, 3, none⟩) (Kd.V_far (p := ⟨gb266, 2, none⟩) (Kd.V_far (p := ⟨gb266, 1, none⟩) (Kd.V_far (p := ⟨gb266, 0, none⟩) (Kd.V_mono HO_0.out (fun k_ hk => (⟨hk, hk.2⟩ : _ ∧ k_ ≠ gb266))) (fun _ hk => hk.2) (.int .u8 0)) (fun _ hk => hk.2) (.int .u16 0)) (fun _ hk => hk.2) (.bool false)) (fun _ hk => hk.2) (.bool false)) (fun _ hk => hk.2) (.int .i64 0)) (fun _ hk => hk.2) (.int .u8 0)) (fun _ hk => hk.2) (.int .u8 0)) (fun _ hk => hk.2) (.int .u32 0)) (fun _ hk => hk.2) (.int .u32 0)) (fun _ hk => hk.2) (.slice none 0 0)) (fun _ hk => hk.2) (.slice none 0 0)) (fun _ hk => ⟨hk.1.1, hk.1.2⟩)))⟩; have n1_ : Aside0 (w16.heap[gb266]? = some (.cells #[.int .u8 0, .int .u16 0, .bool false, .bool false, .int .i64 0, .int .u8 0, .int .u8 0, .int .u32 0, .int .u32 0, .slice none 0 0, .slice none 0 0] 37 (0, 0))) := ⟨(by rw [hw]; exact (by (with_reducible repeat (first | refine blk_drewN ?_ _ | refine blk_drew ?_ | refine blk_alloc ?_ _)); refine blk_put (cs := #[.int .u8 0, .int .u16 0, .bool false, .bool false, .int .i64 0, .int .u8 0, .int .u8 0, .int .u32 0, .int .u32 0, .slice none 0 0, .slice none 0 0]) ?_ 10 _ rfl; (with_reducible repeat (first | refine blk_drewN ?_ _ | refine blk_drew ?_ | refine blk_alloc ?_ _)); refine blk_put (cs := #[.int .u8 0, .int .u16 0, .bool false, .bool false, .int .i64 0, .int .u8 0, .int .u8 0, .int .u32 0, .int .u32 0, .slice none 0 0, .slice none 0 0]) ?_ 9 _ rfl; (with_reducible repeat (first | refine blk_drewN ?_ _ | refine blk_drew ?_ | refine blk_alloc ?_ _)); refine blk_put (cs := #[.int .u8 0, .int .u16 0, .bool false, .bool false, .int .i64 0, .int .u8 0, .int .u8 0, .int .u32 0, .int .u32 0, .slice none 0 0, .slice none 0 0]) ?_ 8 _ rfl; (with_reducible repeat (first | refine blk_drewN ?_ _ | refine blk_drew ?_ | refine blk_alloc ?_ _)); refine blk_put (cs := #[.int .u8 0, .int .u16 0, .bool false, .bool false, .int .i64 0, .int .u8 0, .int .u8 0, .int .u32 0, .int .u32 0, .slice none 0 0, .slice none 0 0]) ?_ 7 _ rfl; (with_reducible repeat (first | refine blk_drewN ?_ _ | refine blk_drew ?_ | refine blk_alloc ?_ _)); refine blk_put (cs := #[.int .u8 0, .int .u16 0, .bool false, .bool false, .int .i64 0, .int .u8 0, .int .u8 0, .int .u32 0, .int .u32 0, .slice none 0 0, .slice none 0 0]) ?_ 6 _ rfl; (with_reducible repeat (first | refine blk_drewN ?_ _ | refine blk_drew ?_ | refine blk_alloc ?_ _)); refine blk_put (cs := #[.int .u8 0, .int .u16 0, .bool false, .bool false, .int .i64 0, .int .u8 0, .int .u8 0, .int .u32 0, .int .u32 0, .slice none 0 0, .slice none 0 0]) ?_ 5 _ rfl; (with_reducible repeat (first | refine blk_drewN ?_ _ | refine blk_drew ?_ | refine blk_alloc ?_ _)); refine blk_put (cs := #[.int .u8 0, .int .u16 0, .bool false, .bool false, .int .i64 0, .int .u8 0, .int .u8 0, .int .u32 0, .int .u32 0, .slice none 0 0, .slice none 0 0]) ?_ 4 _ rfl; (with_reducible repeat (first | refine blk_drewN ?_ _ | refine blk_drew ?_ | refine blk_alloc ?_ _)); refine blk_put (cs := #[.int .u8 0, .int .u16 0, .bool false, .bool false, .int .i64 0, .int .u8 0, .int .u8 0, .int .u32 0, .int .u32 0, .slice none 0 0, .slice none 0 0]) ?_ 3 _ rfl; (with_reducible repeat (first | refine blk_drewN ?_ _ | refine blk_drew ?_ | refine blk_alloc ?_ _)); refine blk_put (cs := #[.int .u8 0, .int .u16 0, .bool false, .bool false, .int .i64 0, .int .u8 0, .int .u8 0, .int .u32 0, .int .u32 0, .slice none 0 0, .slice none 0 0]) ?_ 2 _ rfl; (with_reducible repeat (first | refine blk_drewN ?_ _ | refine blk_drew ?_ | refine blk_alloc ?_ _)); refine blk_put (cs := #[.int .u8 0, .int .u16 0, .bool false, .bool false, .int .i64 0, .int .u8 0, .int .u8 0, .int .u32 0, .int .u32 0, .slice none 0 0, .slice none 0 0]) ?_ 1 _ rfl; (with_reducible repeat (first | refine blk_drewN ?_ _ | refine blk_drew ?_ | refine blk_alloc ?_ _)); refine blk_put (cs := #[.int .u8 0, .int .u16 0, .bool false, .bool false, .int .i64 0, .int .u8 0, .int .u8 0, .int .u32 0, .int .u32 0, .slice none 0 0, .slice none 0 0]) ?_ 0 _ rfl; (with_reducible repeat (first | refine blk_drewN ?_ _ | refine blk_drew ?_ | refine blk_alloc ?_ _)); exact BK266.out))⟩; have n2_ : Aside0 (Below w.heap.size w w16) := ⟨(by rw [hw]; exact (by repeat (first | (with_reducible first | exact HB.out | apply below_alloc | apply pw_below_drewN | apply below_drew1 | refine below_set ?_ GE266.out) | exact HB.out)))⟩; clear hw; clear HO_0; clear BK266; clear HB; have HO_0 := n0_; have BK266 := n1_; have HB := n2_; clear n0_ n1_ n2_))
       refine bodyPost_ret (results_ct rfl _ _ gb266 37 #[.int .u8 0, .int .u16 0, .bool false, .bool false, .int .i64 0, .int .u8 0, .int .u8 0, .int .u32 0, .int .u32 0, .slice none 0 0, .slice none 0 0] (0, 0) _ rfl (by (with_reducible repeat (first | refine blk_drewN ?_ _ | refine blk_drew ?_ | refine blk_alloc ?_ _)); exact BK266.out) Try.underlying37 rfl (by kernel_rfl)) rfl ?_
       exact ⟨_, _, by first | rfl | (simp [errW_none, errW_some] <;> rfl) | (simp [*, errW_none, errW_some] <;> rfl), Kd.V_nil _ _ _ _ _, Kd.V_nil _ _ _ _ _, by repeat (first | (with_reducible first | exact HB.out | apply below_alloc | apply pw_below_drewN | apply below_drew1 | refine below_set ?_ GE266.out) | exact HB.out)⟩
      ·
       rw [if_neg c14] at H
       have c14b0 : decide ((l0.length : Int) < (wrap64 (4 * (wrap64 ((wrap64 (rd l0 0)) - 64))))) = false := decide_eq_false c14
       clear c14
       obtain ⟨ji17, hji17⟩ : ∃ j_ : Int, (wrap64 (4 * (wrap64 ((wrap64 (rd l0 0)) - 64)))) = j_ := ⟨_, rfl⟩
       replace H : (if 0 ≤ (ji17) then (if (ji17) ≤ (l0.length : Int) then ((towroperef02_Sum.f kj5 (l0.take ((ji17) : Int).toNat)).bind fun t275 => (if t275 = 65535 then ((towroperef06_number.f l0 2).bind fun t276 => (if t276 < (ji17) then (towroperef06_Get.j1 kj5 l0 ji17 t276 true) else (if 6 < (l0.length : Int) then (towroperef06_Get.j1 kj5 l0 ji17 t276 (decide ((rd l0 6) ≥ 128))) else (none)))) else (some (0, 0, false, false, 0, 0, 0, 0, 0, ([] : List Int), ([] : List Int), 4)))) else (none)) else (none)) = some (r1, r2, r3, r4, r5, r6, r7, r8, r9, r10, r11, r12) := by first | (rw [hji17] at H; exact H) | (simp only [hji17] at H ⊢; exact H)
       (try rw [hji17] at c14b0)
       have hji17w : (IntKind.i64.wrap (4 * (wrap64 ((wrap64 (rd l0 0)) - 64)))) = ji17 := (i64_w _).trans hji17
       by_cases c18 : 0 ≤ (ji17)
       ·
        rw [if_pos c18] at H
        have c18b0 := eq_true c18
        have c18b1 : decide (0 ≤ (ji17)) = true := decide_eq_true c18
        clear c18
        by_cases c19 : (ji17) ≤ (l0.length : Int)
        ·
         rw [if_pos c19] at H
         have c19b0 := eq_true c19
         have c19b1 : decide ((ji17) ≤ (l0.length : Int)) = true := decide_eq_true c19
         clear c19
         obtain ⟨y270, hy270⟩ : ∃ y_ : List Int, y_ = (l0.take ((ji17) : Int).toNat) := ⟨_, rfl⟩
         replace H : ((towroperef02_Sum.f kj5 y270).bind fun t275 => (if t275 = 65535 then ((towroperef06_number.f l0 2).bind fun t276 => (if t276 < (ji17) then (towroperef06_Get.j1 kj5 l0 ji17 t276 true) else (if 6 < (l0.length : Int) then (towroperef06_Get.j1 kj5 l0 ji17 t276 (decide ((rd l0 6) ≥ 128))) else (none)))) else (some (0, 0, false, false, 0, 0, 0, 0, 0, ([] : List Int), ([] : List Int), 4)))) = some (r1, r2, r3, r4, r5, r6, r7, r8, r9, r10, r11, r12) := by first | (rw [hy270]; with_reducible exact H) | (have H2_ := (Option.bind_some _ _).symm.trans H; rw [hy270]; with_reducible exact H2_) | (have H2_ := (Option.bind_some _ _).symm.trans H; with_reducible exact H2_) | with_reducible exact H | (rw [hy270]; exact H) | exact H
         have Ny270 := Aside0.mk hy270
         clear hy270
         replace H := Option.bind_eq_some_iff.mp H
         obtain ⟨t275, A200, H⟩ := H
         replace H : (if t275 = 65535 then ((towroperef06_number.f l0 2).bind fun t276 => (if t276 < (ji17) then (towroperef06_Get.j1 kj5 l0 ji17 t276 true) else (if 6 < (l0.length : Int) then (towroperef06_Get.j1 kj5 l0 ji17 t276 (decide ((rd l0 6) ≥ 128))) else (none)))) else (some (0, 0, false, false, 0, 0, 0, 0, 0, ([] : List Int), ([] : List Int), 4))) = some (r1, r2, r3, r4, r5, r6, r7, r8, r9, r10, r11, r12) := H
         have A20 := Aside0.mk A200
         clear A200
         by_cases c21 : t275 = 65535
         ·
          rw [if_pos c21] at H
          have c21b0 : (t275 == 65535) = true := beq_iff_eq.mpr c21
          have c21b1 : (t275 != 65535) = false := bne_eq_false_iff_eq.mpr c21
          clear c21
          replace H := Option.bind_eq_some_iff.mp H
          obtain ⟨t276, A220, H⟩ := H
          replace H : (if t276 < (ji17) then (towroperef06_Get.j1 kj5 l0 ji17 t276 true) else (if 6 < (l0.length : Int) then (towroperef06_Get.j1 kj5 l0 ji17 t276 (decide ((rd l0 6) ≥ 128))) else (none))) = some (r1, r2, r3, r4, r5, r6, r7, r8, r9, r10, r11, r12) := H
          have A22 := Aside0.mk A220
          clear A220
          have HC23 := Aside0.mk H
          clear H
          have p269 : 0 ≤ (0 : Int) := (by omega)
          have q269 : 0 < (l0.length : Int) := of_decide_eq_true (by first | (with_reducible assumption) | assumption)
          obtain ⟨ad269, e269, hx269_0⟩ := Kd.at_int (Kd.V_reads' HO_0.out).2.2 0 p269 q269
          cases e269
          have qi269 : (0 < l0.length) = True := eq_true (by omega)
          (try rw [show ((0 : Int)).toNat = 0 from rfl] at hx269_0)
          (try rw [Addr.add_zero'] at hx269_0)
          replace p269 := eq_true p269
          replace q269 := eq_true q269
          have q24 : ((ji17) : Int) ≤ ((l0.length : Int) : Int) := of_decide_eq_true (by first | (with_reducible assumption) | assumption)
          obtain ⟨i024, hi024, _, hsz24, _⟩ := info_parts info5
          have hroom24 : l0.length ≤ c0 := (Kd.V_reads' HO_0.out).2.1
          have hC24 : Kd.F (Kd.int .u8) _ _ (some ad269) l0.length l0 := (Kd.V_at (base := w.heap.size) HO_0.out).2.2
          have hcut24 := cut_to (P := Try.prog) 23 5 .i64 Try.underlying23 hi024 (some ad269) l0.length c0 (ji17) (of_decide_eq_true (by first | (with_reducible assumption) | assumption)) q24 hroom24
          have hr24 := Kd.F_take (m := ((ji17) : Int).toNat) hC24 (by omega)
          have hy24 : y270.length = ((ji17) : Int).toNat := (by rw [Ny270.out, List.length_take]; omega)
          rw [← Ny270.out] at hr24
          rw [← hy24] at hcut24
          have HO274 := Aside0.mk (show Kd.V (Kd.int .u8) 5 _ w.heap.size _ (.slice (some ad269) y270.length c0) y270 from Kd.V_mk (by omega) hr24)
          have HC274 := Aside0.mk (show y270.length ≤ c0 from by omega)
          clear hr24 hC24 hroom24 hi024 hsz24
          have KY24 := Aside0.mk hy24
          clear hy24
          replace q24 := eq_true q24
          go_upto_region 11 with (first | ((with_reducible refine gate_callee (f := 49) rfl ?_); refine goesL_ (some 36) rfl rfl Try.func49 (by kernel_rfl) rfl #[.slice (some ad269) y270.length c0] rfl (by (try simp only [List.map_toArray, List.map_cons, List.map_nil]); first | done | rfl | (simp only [List.length_drop, List.length_take]; rfl) | (go_simp; done) | (go_simp; omega)) ?_; (with_reducible refine (towroperef02_Sum.calls kj5 _ _ y270 t275 _ ?side1 ?side2 A20.out).mono ?_); (case side1 => repeat (first | exact (Kd.V_reads' HO274.out).2.2 | (with_reducible refine Kd.C_alloc ?_ _) | (with_reducible refine Kd.C_drewN ?_ _) | (with_reducible refine Kd.C_drew ?_))); (case side2 => exact (Kd.V_reads' HO274.out).2.1); rintro e w' ⟨rfl, ⟨nd, rfl⟩⟩; refine ⟨_, rfl, ?_⟩) | ((with_reducible refine gate_callee (f := 58) rfl ?_); refine goesL_ (some 40) rfl rfl Try.func58 (by kernel_rfl) rfl #[.slice (some ad269) l0.length c0, .int .i64 2] rfl (by (try simp only [List.map_toArray, List.map_cons, List.map_nil]); first | done | rfl | (simp only [List.length_drop, List.length_take]; rfl) | (go_simp; done) | (go_simp; omega)) ?_; (with_reducible refine (towroperef06_number.calls _ _ l0 2 t276 _ ?side1 ?side2 A22.out).mono ?_); (case side1 => repeat (first | exact (Kd.V_reads' HO_0.out).2.2 | (with_reducible refine Kd.C_alloc ?_ _) | (with_reducible refine Kd.C_drewN ?_ _) | (with_reducible refine Kd.C_drew ?_))); (case side2 => exact (Kd.V_reads' HO_0.out).2.1); rintro e w' ⟨rfl, ⟨nd, rfl⟩⟩; refine ⟨_, rfl, ?_⟩))
          (try simp only [Act.put, List.setIfInBounds_toArray, List.set_cons_zero, List.set_cons_succ])
          go_cut [49] (fun v49 wc => ∃ (kq : Nat) (x49_22 : Bool), v49 = .bool x49_22 ∧ Aside0 (towroperef06_Get.j1 kq l0 ji17 t276 x49_22 = some (r1, r2, r3, r4, r5, r6, r7, r8, r9, r10, r11, r12)) ∧ Aside0 (kq ≤ kj5) ∧ Aside0 (Kd.V (Kd.int .u8) 5 wc w.heap.size (fun k_ => (P0_ k_ ∨ w.heap.size ≤ k_) ∧ k_ ≠ gb266) (.slice (some ad269) l0.length c0) l0) ∧ Aside0 (wc.heap[gb266]? = some (.cells #[.int .u8 0, .int .u16 0, .bool false, .bool false, .int .i64 0, .int .u8 0, .int .u8 0, .int .u32 0, .int .u32 0, (.slice none 0 0), (.slice none 0 0)] 37 (0, 0))) ∧ Aside0 (Below w.heap.size w wc))
          case first =>
           have H := HC23.out
           clear HC23
           by_cases c25 : t276 < (ji17)
           ·
            rw [if_pos c25] at H
            have c25b0 : decide (t276 < (ji17)) = true := decide_eq_true c25
            clear c25
            (first | rw [c25b0] | (simp only [i64_w, i32_w]; rw [c25b0]) | skip)
            have H' := Aside0.mk H
            clear H
            go_wp2
            go_meet
            case rel => exact ⟨_, (true), (by first | rfl | (simp; done) | (simp [*]; done)), H', ⟨by have := HJ5.out; first | omega | exact Nat.le_refl _⟩, ⟨by (with_reducible repeat (first | apply Kd.V_alloc | apply Kd.V_drewN | apply Kd.V_drew)); exact HO_0.out⟩, ⟨by (with_reducible repeat (first | refine blk_drewN ?_ _ | refine blk_drew ?_ | refine blk_alloc ?_ _)); exact BK266.out⟩, ⟨by repeat (first | (with_reducible first | exact HB.out | apply below_alloc | apply pw_below_drewN | apply below_drew1 | refine below_set ?_ GE266.out) | exact HB.out)⟩⟩
           ·
            rw [if_neg c25] at H
            have c25b0 : decide (t276 < (ji17)) = false := decide_eq_false c25
            clear c25
            (first | rw [c25b0] | (simp only [i64_w, i32_w]; rw [c25b0]) | skip)
            by_cases c26 : 6 < (l0.length : Int)
            ·
             rw [if_pos c26] at H
             have c26b0 : decide (6 < (l0.length : Int)) = true := decide_eq_true c26
             have c26b1 : decide (6 < l0.length) = true := decide_eq_true (by omega)
             clear c26
             have H' := Aside0.mk H
             clear H
             have p277 : 0 ≤ (6 : Int) := (by omega)
             have q277 : 6 < (l0.length : Int) := of_decide_eq_true (by first | (with_reducible assumption) | assumption)
             obtain ⟨ad277, e277, hx277_0⟩ := Kd.at_int (Kd.V_reads' HO_0.out).2.2 6 p277 q277
             obtain rfl : ad269 = ad277 := (by injection e277)
             (try simp only [show (6 : Int).toNat = 6 from rfl, Nat.reduceMul, Nat.reduceEqDiff, Go.Addr.add, ↓reduceIte] at hx277_0)
             have qi277 : (6 < l0.length) = True := eq_true (by omega)
             (try rw [show ((6 : Int)).toNat = 6 from rfl] at hx277_0)
             replace p277 := eq_true p277
             replace q277 := eq_true q277
             go_wp2
             go_meet
             case rel => exact ⟨_, (decide ((rd l0 6) ≥ 128)), (by first | rfl | (simp; done) | (simp [*]; done)), H', ⟨by have := HJ5.out; first | omega | exact Nat.le_refl _⟩, ⟨by (with_reducible repeat (first | apply Kd.V_alloc | apply Kd.V_drewN | apply Kd.V_drew)); exact HO_0.out⟩, ⟨by (with_reducible repeat (first | refine blk_drewN ?_ _ | refine blk_drew ?_ | refine blk_alloc ?_ _)); exact BK266.out⟩, ⟨by repeat (first | (with_reducible first | exact HB.out | apply below_alloc | apply pw_below_drewN | apply below_drew1 | refine below_set ?_ GE266.out) | exact HB.out)⟩⟩
            ·
             rw [if_neg c26] at H
             exact absurd H (by simp)
          case rest =>
           clear HC23
           try clear c1
           try clear c2
           try clear c2b0
           try clear c2b1
           try clear p2
           try clear q2
           try clear hx2
           try clear qi2
           try clear c3
           try clear c4
           try clear c5
           try clear p6
           try clear c8
           try clear c8b0
           try clear c8b1
           try clear c9
           try clear c9b0
           try clear c10
           try clear c13
           try clear c13b0
           try clear c13b1
           try clear c14
           try clear c14b0
           try clear c18
           try clear c18b0
           try clear c18b1
           try clear c19
           try clear c19b0
           try clear c19b1
           try clear c21
           try clear c21b0
           try clear c21b1
           try clear q24
           try clear c25
           try clear c25b0
           try clear c26
           try clear c26b0
           try clear c26b1
           try clear p26
           try clear q26
           try clear hx26
           try clear qi26
           try clear hcz11_0
           try clear hcz11_1
           try clear hcz11_10
           try clear hcz11_2
           try clear hcz11_3
           try clear hcz11_4
           try clear hcz11_5
           try clear hcz11_6
           try clear hcz11_7
           try clear hcz11_8
           try clear hcz11_9
           try clear hcz15_0
           try clear hcz15_1
           try clear hcz15_10
           try clear hcz15_2
           try clear hcz15_3
           try clear hcz15_4
           try clear hcz15_5
           try clear hcz15_6
           try clear hcz15_7
           try clear hcz15_8
           try clear hcz15_9
           try clear hcz4_0
           try clear hcz4_1
           try clear hcz4_10
           try clear hcz4_2
           try clear hcz4_3
           try clear hcz4_4
           try clear hcz4_5
           try clear hcz4_6
           try clear hcz4_7
           try clear hcz4_8
           try clear hcz4_9
           try clear hfz11_0
           try clear hfz11_1
           try clear hfz11_10
           try clear hfz11_2
           try clear hfz11_3
           try clear hfz11_4
           try clear hfz11_5
           try clear hfz11_6
           try clear hfz11_7
           try clear hfz11_8
           try clear hfz11_9
           try clear hfz15_0
           try clear hfz15_1
           try clear hfz15_10
           try clear hfz15_2
           try clear hfz15_3
           try clear hfz15_4
           try clear hfz15_5
           try clear hfz15_6
           try clear hfz15_7
           try clear hfz15_8
           try clear hfz15_9
           try clear hfz4_0
           try clear hfz4_1
           try clear hfz4_10
           try clear hfz4_2
           try clear hfz4_3
           try clear hfz4_4
           try clear hfz4_5
           try clear hfz4_6
           try clear hfz4_7
           try clear hfz4_8
           try clear hfz4_9
           try clear hx267_0
           try clear hx268_0
           try clear hx269_0
           try clear hx277_0
           try clear p2
           try clear p267
           try clear p268
           try clear p269
           try clear p277
           try clear q2
           try clear q24
           try clear q267
           try clear q268
           try clear q269
           try clear q277
           obtain ⟨kq, x49_22, rfl, HA, HJ22, HO_0, BK266, HB⟩ := hcut
           cases kq with
           | zero => exact absurd HA.out (by simp [towroperef06_Get.j1])
           | succ kj22 =>
            have H := HA.out
            clear HA
            simp only [towroperef06_Get.j1] at H
            by_cases c27 : x49_22 = true
            ·
             subst c27
             have H1 : (some (0, 0, false, false, 0, 0, 0, 0, 0, ([] : List Int), ([] : List Int), 3)) = some (r1, r2, r3, r4, r5, r6, r7, r8, r9, r10, r11, r12) := by rw [if_pos rfl] at H; exact H
             clear H
             have H := H1
             clear H1
             simp only [Option.some.injEq, Prod.mk.injEq] at H
             obtain ⟨rfl, rfl, rfl, rfl, rfl, rfl, rfl, rfl, rfl, rfl, rfl, rfl⟩ := H
             have hcz28_0 : wc.cell? ⟨gb266, 0, none⟩ = some (.int .u8 0) := (blk_cell BK266.out 0).trans rfl
             have hcz28_1 : wc.cell? ⟨gb266, 1, none⟩ = some (.int .u16 0) := (blk_cell BK266.out 1).trans rfl
             have hcz28_2 : wc.cell? ⟨gb266, 2, none⟩ = some (.bool false) := (blk_cell BK266.out 2).trans rfl
             have hcz28_3 : wc.cell? ⟨gb266, 3, none⟩ = some (.bool false) := (blk_cell BK266.out 3).trans rfl
             have hcz28_4 : wc.cell? ⟨gb266, 4, none⟩ = some (.int .i64 0) := (blk_cell BK266.out 4).trans rfl
             have hcz28_5 : wc.cell? ⟨gb266, 5, none⟩ = some (.int .u8 0) := (blk_cell BK266.out 5).trans rfl
             have hcz28_6 : wc.cell? ⟨gb266, 6, none⟩ = some (.int .u8 0) := (blk_cell BK266.out 6).trans rfl
             have hcz28_7 : wc.cell? ⟨gb266, 7, none⟩ = some (.int .u32 0) := (blk_cell BK266.out 7).trans rfl
             have hcz28_8 : wc.cell? ⟨gb266, 8, none⟩ = some (.int .u32 0) := (blk_cell BK266.out 8).trans rfl
             have hcz28_9 : wc.cell? ⟨gb266, 9, none⟩ = some (.slice none 0 0) := (blk_cell BK266.out 9).trans rfl
             have hcz28_10 : wc.cell? ⟨gb266, 10, none⟩ = some (.slice none 0 0) := (blk_cell BK266.out 10).trans rfl
             have hfz28_0 := blk_frozen BK266.out 0
             have hfz28_1 := blk_frozen BK266.out 1
             have hfz28_2 := blk_frozen BK266.out 2
             have hfz28_3 := blk_frozen BK266.out 3
             have hfz28_4 := blk_frozen BK266.out 4
             have hfz28_5 := blk_frozen BK266.out 5
             have hfz28_6 := blk_frozen BK266.out 6
             have hfz28_7 := blk_frozen BK266.out 7
             have hfz28_8 := blk_frozen BK266.out 8
             have hfz28_9 := blk_frozen BK266.out 9
             have hfz28_10 := blk_frozen BK266.out 10
             go_wp2_with (first | ((with_reducible refine gate_store (t := 37) (p := 2) rfl ?_); refine store_event (t := 37) (p := 2) (v := ?vo_w29) (w1 := (((((((((((wc.setCell ⟨gb266, 0, none⟩ (.int .u8 0)).setCell ⟨gb266, 1, none⟩ (.int .u16 0)).setCell ⟨gb266, 2, none⟩ (.bool false)).setCell ⟨gb266, 3, none⟩ (.bool false)).setCell ⟨gb266, 4, none⟩ (.int .i64 0)).setCell ⟨gb266, 5, none⟩ (.int .u8 0)).setCell ⟨gb266, 6, none⟩ (.int .u8 0)).setCell ⟨gb266, 7, none⟩ (.int .u32 0)).setCell ⟨gb266, 8, none⟩ (.int .u32 0)).setCell ⟨gb266, 9, none⟩ (.slice none 0 0)).setCell ⟨gb266, 10, none⟩ (.slice none 0 0))) ?hg ?ho ?hn ?hr ?_; (case ho => rfl); (case hg => rfl); (case hn => rfl); (case hr => first | (go_simp; done) | (go_simp; rfl)); intro w29 hw; have n0_ : Aside0 (Kd.V (Kd.int .u8) 5 w29 w.heap.size (fun k_ => (P0_ k_ ∨ w.heap.size ≤ k_) ∧ k_ ≠ gb266) (.slice (some ad269) l0.length c0) l0) := ⟨(by rw [hw]; exact (by (with_reducible repeat (first | apply Kd.V_alloc | apply Kd.V_drewN | apply Kd.V_drew)); exact Kd.V_mono (Kd.V_far (p := ⟨gb266, 10, none⟩) (Kd.V_far (p := ⟨gb266, 9, none⟩) (Kd.V_far (p := ⟨gb266, 8, none⟩) (Kd.V_far (p := ⟨gb266, 7, none⟩) (Kd.V_far (p := ⟨gb266, 6, none⟩) (Kd.V_far (p := ⟨gb266, 5, none⟩) (Kd.V_far (p := ⟨gb266, 4, none⟩) (Kd.V_far (p := ⟨gb266, 3, none⟩) (Kd.V_far (p := ⟨gb266, 2, none⟩) (Kd.V_far (p := ⟨gb266, 1, none⟩) (Kd.V_far (p := ⟨gb266, 0, none⟩) (Kd.V_mono HO_0.out (fun k_ hk => (⟨hk, hk.2⟩ : _ ∧ k_ ≠ gb266))) (fun _ hk => hk.2) (.int .u8 0)) (fun _ hk => hk.2) (.int .u16 0)) (fun _ hk => hk.2) (.bool false)) (fun _ hk => hk.2) (.bool false)) (fun _ hk => hk.2) (.int .i64 0)) (fun _ hk => hk.2) (.int .u8 0)) (fun _ hk => hk.2) (.int .u8 0)) (fun _ hk => hk.2) (.int .u32 0)) (fun _ hk => hk.2) (.int .u32 0)) (fun _ hk => hk.2) (.slice none 0 0)) (fun _ hk => hk.2) (.slice none 0 0)) (fun _ hk => ⟨hk.1.1, hk.1.2⟩)))⟩; have n1_ : Aside0 (w29.heap[gb266]? = some (.cells #[.int .u8 0, .int .u16 0, .bool false, .bool false, .int .i64 0, .int .u8 0, .int .u8 0, .int .u32 0, .int .u32 0, .slice none 0 0, .slice none 0 0] 37 (0, 0))) := ⟨(by rw [hw]; exact (by (with_reducible repeat (first | refine blk_drewN ?_ _ | refine blk_drew ?_ | refine blk_alloc ?_ _)); refine blk_put (cs := #[.int .u8 0, .int .u16 0, .bool false, .bool false, .int .i64 0, .int .u8 0, .int .u8 0, .int .u32 0, .int .u32 0, .slice none 0 0, .slice none 0 0]) ?_ 10 _ rfl; (with_reducible repeat (first | refine blk_drewN ?_ _ | refine blk_drew ?_ | refine blk_alloc ?_ _)); refine blk_put (cs := #[.int .u8 0, .int .u16 0, .bool false, .bool false, .int .i64 0, .int .u8 0, .int .u8 0, .int .u32 0, .int .u32 0, .slice none 0 0, .slice none 0 0]) ?_ 9 _ rfl; (with_reducible repeat (first | refine blk_drewN ?_ _ | refine blk_drew ?_ | refine blk_alloc ?_ _)); refine blk_put (cs := #[.int .u8 0, .int .u16 0, .bool false, .bool false, .int .i64 0, .int .u8 0, .int .u8 0, .int .u32 0, .int .u32 0, .slice none 0 0, .slice none 0 0]) ?_ 8 _ rfl; (with_reducible repeat (first | refine blk_drewN ?_ _ | refine blk_drew ?_ | refine blk_alloc ?_ _)); refine blk_put (cs := #[.int .u8 0, .int .u16 0, .bool false, .bool false, .int .i64 0, .int .u8 0, .int .u8 0, .int .u32 0, .int .u32 0, .slice none 0 0, .slice none 0 0]) ?_ 7 _ rfl; (with_reducible repeat (first | refine blk_drewN ?_ _ | refine blk_drew ?_ | refine blk_alloc ?_ _)); refine blk_put (cs := #[.int .u8 0, .int .u16 0, .bool false, .bool false, .int .i64 0, .int .u8 0, .int .u8 0, .int .u32 0, .int .u32 0, .slice none 0 0, .slice none 0 0]) ?_ 6 _ rfl; (with_reducible repeat (first | refine blk_drewN ?_ _ | refine blk_drew ?_ | refine blk_alloc ?_ _)); refine blk_put (cs := #[.int .u8 0, .int .u16 0, .bool false, .bool false, .int .i64 0, .int .u8 0, .int .u8 0, .int .u32 0, .int .u32 0, .slice none 0 0, .slice none 0 0]) ?_ 5 _ rfl; (with_reducible repeat (first | refine blk_drewN ?_ _ | refine blk_drew ?_ | refine blk_alloc ?_ _)); refine blk_put (cs := #[.int .u8 0, .int .u16 0, .bool false, .bool false, .int .i64 0, .int .u8 0, .int .u8 0, .int .u32 0, .int .u32 0, .slice none 0 0, .slice none 0 0]) ?_ 4 _ rfl; (with_reducible repeat (first | refine blk_drewN ?_ _ | refine blk_drew ?_ | refine blk_alloc ?_ _)); refine blk_put (cs := #[.int .u8 0, .int .u16 0, .bool false, .bool false, .int .i64 0, .int .u8 0, .int .u8 0, .int .u32 0, .int .u32 0, .slice none 0 0, .slice none 0 0]) ?_ 3 _ rfl; (with_reducible repeat (first | refine blk_drewN ?_ _ | refine blk_drew ?_ | refine blk_alloc ?_ _)); refine blk_put (cs := #[.int .u8 0, .int .u16 0, .bool false, .bool false, .int .i64 0, .int .u8 0, .int .u8 0, .int .u32 0, .int .u32 0, .slice none 0 0, .slice none 0 0]) ?_ 2 _ rfl; (with_reducible repeat (first | refine blk_drewN ?_ _ | refine blk_drew ?_ | refine blk_alloc ?_ _)); refine blk_put (cs := #[.int .u8 0, .int .u16 0, .bool false, .bool false, .int .i64 0, .int .u8 0, .int .u8 0, .int .u32 0, .int .u32 0, .slice none 0 0, .slice none 0 0]) ?_ 1 _ rfl; (with_reducible repeat (first | refine blk_drewN ?_ _ | refine blk_drew ?_ | refine blk_alloc ?_ _)); refine blk_put (cs := #[.int .u8 0, .int .u16 0, .bool false, .bool false, .int .i64 0, .int .u8 0, .int .u8 0, .int .u32 0, .int .u32 0, .slice none 0 0, .slice none 0 0]) ?_ 0 _ rfl; (with_reducible repeat (first | refine blk_drewN ?_ _ | refine blk_drew ?_ | refine blk_alloc ?_ _)); exact BK266.out))⟩; have n2_ : Aside0 (Below w.heap.size w w29) := ⟨(by rw [hw]; exact (by repeat (first | (with_reducible first | exact HB.out | apply below_alloc | apply pw_below_drewN | apply below_drew1 | refine below_set ?_ GE266.out) | exact HB.out)))⟩; clear hw; clear HO_0; clear BK266; clear HB; have HO_0 := n0_; have BK266 := n1_; have HB := n2_; clear n0_ n1_ n2_))
             refine bodyPost_ret (results_ct rfl _ _ gb266 37 #[.int .u8 0, .int .u16 0, .bool false, .bool false, .int .i64 0, .int .u8 0, .int .u8 0, .int .u32 0, .int .u32 0, .slice none 0 0, .slice none 0 0] (0, 0) _ rfl (by (with_reducible repeat (first | refine blk_drewN ?_ _ | refine blk_drew ?_ | refine blk_alloc ?_ _)); exact BK266.out) Try.underlying37 rfl (by kernel_rfl)) rfl ?_
             exact ⟨_, _, by first | rfl | (simp [errW_none, errW_some] <;> rfl) | (simp only [← hji17]; first | rfl | (simp [errW_none, errW_some] <;> rfl)) | (simp [*, errW_none, errW_some] <;> rfl), Kd.V_nil _ _ _ _ _, Kd.V_nil _ _ _ _ _, by repeat (first | (with_reducible first | exact HB.out | apply below_alloc | apply pw_below_drewN | apply below_drew1 | refine below_set ?_ GE266.out) | exact HB.out)⟩
            ·
             replace c27 := Bool.eq_false_iff.mpr c27
             subst c27
             have H1 : (if (l0.length : Int) < t276 then (some (0, 0, false, false, 0, 0, 0, 0, 0, ([] : List Int), ([] : List Int), 2)) else (if 1 < (l0.length : Int) then ((towroperef06_number.f l0 4).bind fun t279 => (if 8 < (l0.length : Int) then (if 9 < (l0.length : Int) then (if 6 < (l0.length : Int) then ((towroperef06_number.f l0 6).bind fun t285 => ((towroperef06_number.f l0 12).bind fun t286 => ((towroperef06_number.f l0 14).bind fun t287 => ((towroperef06_number.f l0 16).bind fun t288 => ((towroperef06_number.f l0 18).bind fun t289 => (if 20 ≤ ji17 then (if ji17 ≤ (l0.length : Int) then (if 0 ≤ ji17 then (if ji17 ≤ t276 then (if t276 ≤ (l0.length : Int) then (some (rd l0 1, IntKind.u16.wrap (t279), ((((Int.tdiv (rd l0 6) 64) % 256) % 2) == 1), ((((Int.tdiv (rd l0 6) 32) % 256) % 2) == 1), Int.tmod t285 8192, rd l0 8, rd l0 9, (wrap64 ((wrap64 (65536 * t286)) + t287)) % 4294967296, (wrap64 ((wrap64 (65536 * t288)) + t289)) % 4294967296, ((l0.take (ji17 : Int).toNat).drop 20), ((l0.take (t276 : Int).toNat).drop (ji17 : Int).toNat), 0)) else (none)) else (none)) else (none)) else (none)) else (none))))))) else (none)) else (none)) else (none))) else (none))) = some (r1, r2, r3, r4, r5, r6, r7, r8, r9, r10, r11, r12) := by rw [if_neg (show ¬ (false = true) by decide)] at H; exact H
             clear H
             have H := H1
             clear H1
             by_cases c30 : (l0.length : Int) < t276
             ·
              rw [if_pos c30] at H
              have c30b0 : decide ((l0.length : Int) < t276) = true := decide_eq_true c30
              clear c30
              simp only [Option.some.injEq, Prod.mk.injEq] at H
              obtain ⟨rfl, rfl, rfl, rfl, rfl, rfl, rfl, rfl, rfl, rfl, rfl, rfl⟩ := H
              have hcz31_0 : wc.cell? ⟨gb266, 0, none⟩ = some (.int .u8 0) := (blk_cell BK266.out 0).trans rfl
              have hcz31_1 : wc.cell? ⟨gb266, 1, none⟩ = some (.int .u16 0) := (blk_cell BK266.out 1).trans rfl
              have hcz31_2 : wc.cell? ⟨gb266, 2, none⟩ = some (.bool false) := (blk_cell BK266.out 2).trans rfl
              have hcz31_3 : wc.cell? ⟨gb266, 3, none⟩ = some (.bool false) := (blk_cell BK266.out 3).trans rfl
              have hcz31_4 : wc.cell? ⟨gb266, 4, none⟩ = some (.int .i64 0) := (blk_cell BK266.out 4).trans rfl
              have hcz31_5 : wc.cell? ⟨gb266, 5, none⟩ = some (.int .u8 0) := (blk_cell BK266.out 5).trans rfl
              have hcz31_6 : wc.cell? ⟨gb266, 6, none⟩ = some (.int .u8 0) := (blk_cell BK266.out 6).trans rfl
              have hcz31_7 : wc.cell? ⟨gb266, 7, none⟩ = some (.int .u32 0) := (blk_cell BK266.out 7).trans rfl
              have hcz31_8 : wc.cell? ⟨gb266, 8, none⟩ = some (.int .u32 0) := (blk_cell BK266.out 8).trans rfl
              have hcz31_9 : wc.cell? ⟨gb266, 9, none⟩ = some (.slice none 0 0) := (blk_cell BK266.out 9).trans rfl
              have hcz31_10 : wc.cell? ⟨gb266, 10, none⟩ = some (.slice none 0 0) := (blk_cell BK266.out 10).trans rfl
              have hfz31_0 := blk_frozen BK266.out 0
              have hfz31_1 := blk_frozen BK266.out 1
              have hfz31_2 := blk_frozen BK266.out 2
              have hfz31_3 := blk_frozen BK266.out 3
              have hfz31_4 := blk_frozen BK266.out 4
              have hfz31_5 := blk_frozen BK266.out 5
              have hfz31_6 := blk_frozen BK266.out 6
              have hfz31_7 := blk_frozen BK266.out 7
              have hfz31_8 := blk_frozen BK266.out 8
              have hfz31_9 := blk_frozen BK266.out 9
              have hfz31_10 := blk_frozen BK266.out 10
              go_wp2_with (first | ((with_reducible refine gate_store (t := 37) (p := 2) rfl ?_); refine store_event (t := 37) (p := 2) (v := ?vo_w32) (w1 := (((((((((((wc.setCell ⟨gb266, 0, none⟩ (.int .u8 0)).setCell ⟨gb266, 1, none⟩ (.int .u16 0)).setCell ⟨gb266, 2, none⟩ (.bool false)).setCell ⟨gb266, 3, none⟩ (.bool false)).setCell ⟨gb266, 4, none⟩ (.int .i64 0)).setCell ⟨gb266, 5, none⟩ (.int .u8 0)).setCell ⟨gb266, 6, none⟩ (.int .u8 0)).setCell ⟨gb266, 7, none⟩ (.int .u32 0)).setCell ⟨gb266, 8, none⟩ (.int .u32 0)).setCell ⟨gb266, 9, none⟩ (.slice none 0 0)).setCell ⟨gb266, 10, none⟩ (.slice none 0 0))) ?hg ?ho ?hn ?hr ?_; (case ho => rfl); (case hg => rfl); (case hn => rfl); (case hr => first | (go_simp; done) | (go_simp; rfl)); intro w32 hw; have n0_ : Aside0 (Kd.V (Kd.int .u8) 5 w32 w.heap.size (fun k_ => (P0_ k_ ∨ w.heap.size ≤ k_) ∧ k_ ≠ gb266) (.slice (some ad269) l0.length c0) l0) := ⟨(by rw [hw]; exact (by (with_reducible repeat (first | apply Kd.V_alloc | apply Kd.V_drewN | apply Kd.V_drew)); exact Kd.V_mono (Kd.V_far (p := ⟨gb266, 10, none⟩) (Kd.V_far (p := ⟨gb266, 9, none⟩) (Kd.V_far (p := ⟨gb266, 8, none⟩) (Kd.V_far (p := ⟨gb266, 7, none⟩) (Kd.V_far (p := ⟨gb266, 6, none⟩) (Kd.V_far (p := ⟨gb266, 5, none⟩) (Kd.V_far (p := ⟨gb266, 4, none⟩) (Kd.V_far (p := ⟨gb266, 3, none⟩) (Kd.V_far (p := ⟨gb266, 2, none⟩) (Kd.V_far (p := ⟨gb266, 1, none⟩) (Kd.V_far (p := ⟨gb266, 0, none⟩) (Kd.V_mono HO_0.out (fun k_ hk => (⟨hk, hk.2⟩ : _ ∧ k_ ≠ gb266))) (fun _ hk => hk.2) (.int .u8 0)) (fun _ hk => hk.2) (.int .u16 0)) (fun _ hk => hk.2) (.bool false)) (fun _ hk => hk.2) (.bool false)) (fun _ hk => hk.2) (.int .i64 0)) (fun _ hk => hk.2) (.int .u8 0)) (fun _ hk => hk.2) (.int .u8 0)) (fun _ hk => hk.2) (.int .u32 0)) (fun _ hk => hk.2) (.int .u32 0)) (fun _ hk => hk.2) (.slice none 0 0)) (fun _ hk => hk.2) (.slice none 0 0)) (fun _ hk => ⟨hk.1.1, hk.1.2⟩)))⟩; have n1_ : Aside0 (w32.heap[gb266]? = some (.cells #[.int .u8 0, .int .u16 0, .bool false, .bool false, .int .i64 0, .int .u8 0, .int .u8 0, .int .u32 0, .int .u32 0, .slice none 0 0, .slice none 0 0] 37 (0, 0))) := ⟨(by rw [hw]; exact (by (with_reducible repeat (first | refine blk_drewN ?_ _ | refine blk_drew ?_ | refine blk_alloc ?_ _)); refine blk_put (cs := #[.int .u8 0, .int .u16 0, .bool false, .bool false, .int .i64 0, .int .u8 0, .int .u8 0, .int .u32 0, .int .u32 0, .slice none 0 0, .slice none 0 0]) ?_ 10 _ rfl; (with_reducible repeat (first | refine blk_drewN ?_ _ | refine blk_drew ?_ | refine blk_alloc ?_ _)); refine blk_put (cs := #[.int .u8 0, .int .u16 0, .bool false, .bool false, .int .i64 0, .int .u8 0, .int .u8 0, .int .u32 0, .int .u32 0, .slice none 0 0, .slice none 0 0]) ?_ 9 _ rfl; (with_reducible repeat (first | refine blk_drewN ?_ _ | refine blk_drew ?_ | refine blk_alloc ?_ _)); refine blk_put (cs := #[.int .u8 0, .int .u16 0, .bool false, .bool false, .int .i64 0, .int .u8 0, .int .u8 0, .int .u32 0, .int .u32 0, .slice none 0 0, .slice none 0 0]) ?_ 8 _ rfl; (with_reducible repeat (first | refine blk_drewN ?_ _ | refine blk_drew ?_ | refine blk_alloc ?_ _)); refine blk_put (cs := #[.int .u8 0, .int .u16 0, .bool false, .bool false, .int .i64 0, .int .u8 0, .int .u8 0, .int .u32 0, .int .u32 0, .slice none 0 0, .slice none 0 0]) ?_ 7 _ rfl; (with_reducible repeat (first | refine blk_drewN ?_ _ | refine blk_drew ?_ | refine blk_alloc ?_ _)); refine blk_put (cs := #[.int .u8 0, .int .u16 0, .bool false, .bool false, .int .i64 0, .int .u8 0, .int .u8 0, .int .u32 0, .int .u32 0, .slice none 0 0, .slice none 0 0]) ?_ 6 _ rfl; (with_reducible repeat (first | refine blk_drewN ?_ _ | refine blk_drew ?_ | refine blk_alloc ?_ _)); refine blk_put (cs := #[.int .u8 0, .int .u16 0, .bool false, .bool false, .int .i64 0, .int .u8 0, .int .u8 0, .int .u32 0, .int .u32 0, .slice none 0 0, .slice none 0 0]) ?_ 5 _ rfl; (with_reducible repeat (first | refine blk_drewN ?_ _ | refine blk_drew ?_ | refine blk_alloc ?_ _)); refine blk_put (cs := #[.int .u8 0, .int .u16 0, .bool false, .bool false, .int .i64 0, .int .u8 0, .int .u8 0, .int .u32 0, .int .u32 0, .slice none 0 0, .slice none 0 0]) ?_ 4 _ rfl; (with_reducible repeat (first | refine blk_drewN ?_ _ | refine blk_drew ?_ | refine blk_alloc ?_ _)); refine blk_put (cs := #[.int .u8 0, .int .u16 0, .bool false, .bool false, .int .i64 0, .int .u8 0, .int .u8 0, .int .u32 0, .int .u32 0, .slice none 0 0, .slice none 0 0]) ?_ 3 _ rfl; (with_reducible repeat (first | refine blk_drewN ?_ _ | refine blk_drew ?_ | refine blk_alloc ?_ _)); refine blk_put (cs := #[.int .u8 0, .int .u16 0, .bool false, .bool false, .int .i64 0, .int .u8 0, .int .u8 0, .int .u32 0, .int .u32 0, .slice none 0 0, .slice none 0 0]) ?_ 2 _ rfl; (with_reducible repeat (first | refine blk_drewN ?_ _ | refine blk_drew ?_ | refine blk_alloc ?_ _)); refine blk_put (cs := #[.int .u8 0, .int .u16 0, .bool false, .bool false, .int .i64 0, .int .u8 0, .int .u8 0, .int .u32 0, .int .u32 0, .slice none 0 0, .slice none 0 0]) ?_ 1 _ rfl; (with_reducible repeat (first | refine blk_drewN ?_ _ | refine blk_drew ?_ | refine blk_alloc ?_ _)); refine blk_put (cs := #[.int .u8 0, .int .u16 0, .bool false, .bool false, .int .i64 0, .int .u8 0, .int .u8 0, .int .u32 0, .int .u32 0, .slice none 0 0, .slice none 0 0]) ?_ 0 _ rfl; (with_reducible repeat (first | refine blk_drewN ?_ _ | refine blk_drew ?_ | refine blk_alloc ?_ _)); exact BK266.out))⟩; have n2_ : Aside0 (Below w.heap.size w w32) := ⟨(by rw [hw]; exact (by repeat (first | (with_reducible first | exact HB.out | apply below_alloc | apply pw_below_drewN | apply below_drew1 | refine below_set ?_ GE266.out) | exact HB.out)))⟩; clear hw; clear HO_0; clear BK266; clear HB; have HO_0 := n0_; have BK266 := n1_; have HB := n2_; clear n0_ n1_ n2_))
              refine bodyPost_ret (results_ct rfl _ _ gb266 37 #[.int .u8 0, .int .u16 0, .bool false, .bool false, .int .i64 0, .int .u8 0, .int .u8 0, .int .u32 0, .int .u32 0, .slice none 0 0, .slice none 0 0] (0, 0) _ rfl (by (with_reducible repeat (first | refine blk_drewN ?_ _ | refine blk_drew ?_ | refine blk_alloc ?_ _)); exact BK266.out) Try.underlying37 rfl (by kernel_rfl)) rfl ?_
              exact ⟨_, _, by first | rfl | (simp [errW_none, errW_some] <;> rfl) | (simp only [← hji17]; first | rfl | (simp [errW_none, errW_some] <;> rfl)) | (simp [*, errW_none, errW_some] <;> rfl), Kd.V_nil _ _ _ _ _, Kd.V_nil _ _ _ _ _, by repeat (first | (with_reducible first | exact HB.out | apply below_alloc | apply pw_below_drewN | apply below_drew1 | refine below_set ?_ GE266.out) | exact HB.out)⟩
             ·
              rw [if_neg c30] at H
              have c30b0 : decide ((l0.length : Int) < t276) = false := decide_eq_false c30
              clear c30
              by_cases c33 : 1 < (l0.length : Int)
              ·
               rw [if_pos c33] at H
               have c33b0 : decide (1 < (l0.length : Int)) = true := decide_eq_true c33
               have c33b1 : decide (1 < l0.length) = true := decide_eq_true (by omega)
               clear c33
               replace H := Option.bind_eq_some_iff.mp H
               obtain ⟨t279, A340, H⟩ := H
               replace H : (if 8 < (l0.length : Int) then (if 9 < (l0.length : Int) then (if 6 < (l0.length : Int) then ((towroperef06_number.f l0 6).bind fun t285 => ((towroperef06_number.f l0 12).bind fun t286 => ((towroperef06_number.f l0 14).bind fun t287 => ((towroperef06_number.f l0 16).bind fun t288 => ((towroperef06_number.f l0 18).bind fun t289 => (if 20 ≤ ji17 then (if ji17 ≤ (l0.length : Int) then (if 0 ≤ ji17 then (if ji17 ≤ t276 then (if t276 ≤ (l0.length : Int) then (some (rd l0 1, IntKind.u16.wrap (t279), ((((Int.tdiv (rd l0 6) 64) % 256) % 2) == 1), ((((Int.tdiv (rd l0 6) 32) % 256) % 2) == 1), Int.tmod t285 8192, rd l0 8, rd l0 9, (wrap64 ((wrap64 (65536 * t286)) + t287)) % 4294967296, (wrap64 ((wrap64 (65536 * t288)) + t289)) % 4294967296, ((l0.take (ji17 : Int).toNat).drop 20), ((l0.take (t276 : Int).toNat).drop (ji17 : Int).toNat), 0)) else (none)) else (none)) else (none)) else (none)) else (none))))))) else (none)) else (none)) else (none)) = some (r1, r2, r3, r4, r5, r6, r7, r8, r9, r10, r11, r12) := H
               have A34 := Aside0.mk A340
               clear A340
               by_cases c35 : 8 < (l0.length : Int)
               ·
                rw [if_pos c35] at H
                have c35b0 : decide (8 < (l0.length : Int)) = true := decide_eq_true c35
                have c35b1 : decide (8 < l0.length) = true := decide_eq_true (by omega)
                clear c35
                by_cases c36 : 9 < (l0.length : Int)
                ·
                 rw [if_pos c36] at H
                 have c36b0 : decide (9 < (l0.length : Int)) = true := decide_eq_true c36
                 have c36b1 : decide (9 < l0.length) = true := decide_eq_true (by omega)
                 clear c36
                 by_cases c37 : 6 < (l0.length : Int)
                 ·
                  rw [if_pos c37] at H
                  have c37b0 : decide (6 < (l0.length : Int)) = true := decide_eq_true c37
                  have c37b1 : decide (6 < l0.length) = true := decide_eq_true (by omega)
                  clear c37
                  replace H := Option.bind_eq_some_iff.mp H
                  obtain ⟨t285, A380, H⟩ := H
                  replace H : ((towroperef06_number.f l0 12).bind fun t286 => ((towroperef06_number.f l0 14).bind fun t287 => ((towroperef06_number.f l0 16).bind fun t288 => ((towroperef06_number.f l0 18).bind fun t289 => (if 20 ≤ ji17 then (if ji17 ≤ (l0.length : Int) then (if 0 ≤ ji17 then (if ji17 ≤ t276 then (if t276 ≤ (l0.length : Int) then (some (rd l0 1, IntKind.u16.wrap (t279), ((((Int.tdiv (rd l0 6) 64) % 256) % 2) == 1), ((((Int.tdiv (rd l0 6) 32) % 256) % 2) == 1), Int.tmod t285 8192, rd l0 8, rd l0 9, (wrap64 ((wrap64 (65536 * t286)) + t287)) % 4294967296, (wrap64 ((wrap64 (65536 * t288)) + t289)) % 4294967296, ((l0.take (ji17 : Int).toNat).drop 20), ((l0.take (t276 : Int).toNat).drop (ji17 : Int).toNat), 0)) else (none)) else (none)) else (none)) else (none)) else (none)))))) = some (r1, r2, r3, r4, r5, r6, r7, r8, r9, r10, r11, r12) := H
                  have A38 := Aside0.mk A380
                  clear A380
                  replace H := Option.bind_eq_some_iff.mp H
                  obtain ⟨t286, A390, H⟩ := H
                  replace H : ((towroperef06_number.f l0 14).bind fun t287 => ((towroperef06_number.f l0 16).bind fun t288 => ((towroperef06_number.f l0 18).bind fun t289 => (if 20 ≤ ji17 then (if ji17 ≤ (l0.length : Int) then (if 0 ≤ ji17 then (if ji17 ≤ t276 then (if t276 ≤ (l0.length : Int) then (some (rd l0 1, IntKind.u16.wrap (t279), ((((Int.tdiv (rd l0 6) 64) % 256) % 2) == 1), ((((Int.tdiv (rd l0 6) 32) % 256) % 2) == 1), Int.tmod t285 8192, rd l0 8, rd l0 9, (wrap64 ((wrap64 (65536 * t286)) + t287)) % 4294967296, (wrap64 ((wrap64 (65536 * t288)) + t289)) % 4294967296, ((l0.take (ji17 : Int).toNat).drop 20), ((l0.take (t276 : Int).toNat).drop (ji17 : Int).toNat), 0)) else (none)) else (none)) else (none)) else (none)) else (none))))) = some (r1, r2, r3, r4, r5, r6, r7, r8, r9, r10, r11, r12) := H
                  have A39 := Aside0.mk A390
                  clear A390
                  replace H := Option.bind_eq_some_iff.mp H
                  obtain ⟨t287, A400, H⟩ := H
                  replace H : ((towroperef06_number.f l0 16).bind fun t288 => ((towroperef06_number.f l0 18).bind fun t289 => (if 20 ≤ ji17 then (if ji17 ≤ (l0.length : Int) then (if 0 ≤ ji17 then (if ji17 ≤ t276 then (if t276 ≤ (l0.length : Int) then (some (rd l0 1, IntKind.u16.wrap (t279), ((((Int.tdiv (rd l0 6) 64) % 256) % 2) == 1), ((((Int.tdiv (rd l0 6) 32) % 256) % 2) == 1), Int.tmod t285 8192, rd l0 8, rd l0 9, (wrap64 ((wrap64 (65536 * t286)) + t287)) % 4294967296, (wrap64 ((wrap64 (65536 * t288)) + t289)) % 4294967296, ((l0.take (ji17 : Int).toNat).drop 20), ((l0.take (t276 : Int).toNat).drop (ji17 : Int).toNat), 0)) else (none)) else (none)) else (none)) else (none)) else (none)))) = some (r1, r2, r3, r4, r5, r6, r7, r8, r9, r10, r11, r12) := H
                  have A40 := Aside0.mk A400
                  clear A400
                  replace H := Option.bind_eq_some_iff.mp H
                  obtain ⟨t288, A410, H⟩ := H
                  replace H : ((towroperef06_number.f l0 18).bind fun t289 => (if 20 ≤ ji17 then (if ji17 ≤ (l0.length : Int) then (if 0 ≤ ji17 then (if ji17 ≤ t276 then (if t276 ≤ (l0.length : Int) then (some (rd l0 1, IntKind.u16.wrap (t279), ((((Int.tdiv (rd l0 6) 64) % 256) % 2) == 1), ((((Int.tdiv (rd l0 6) 32) % 256) % 2) == 1), Int.tmod t285 8192, rd l0 8, rd l0 9, (wrap64 ((wrap64 (65536 * t286)) + t287)) % 4294967296, (wrap64 ((wrap64 (65536 * t288)) + t289)) % 4294967296, ((l0.take (ji17 : Int).toNat).drop 20), ((l0.take (t276 : Int).toNat).drop (ji17 : Int).toNat), 0)) else (none)) else (none)) else (none)) else (none)) else (none))) = some (r1, r2, r3, r4, r5, r6, r7, r8, r9, r10, r11, r12) := H
                  have A41 := Aside0.mk A410
                  clear A410
                  replace H := Option.bind_eq_some_iff.mp H
                  obtain ⟨t289, A420, H⟩ := H
                  replace H : (if 20 ≤ ji17 then (if ji17 ≤ (l0.length : Int) then (if 0 ≤ ji17 then (if ji17 ≤ t276 then (if t276 ≤ (l0.length : Int) then (some (rd l0 1, IntKind.u16.wrap (t279), ((((Int.tdiv (rd l0 6) 64) % 256) % 2) == 1), ((((Int.tdiv (rd l0 6) 32) % 256) % 2) == 1), Int.tmod t285 8192, rd l0 8, rd l0 9, (wrap64 ((wrap64 (65536 * t286)) + t287)) % 4294967296, (wrap64 ((wrap64 (65536 * t288)) + t289)) % 4294967296, ((l0.take (ji17 : Int).toNat).drop 20), ((l0.take (t276 : Int).toNat).drop (ji17 : Int).toNat), 0)) else (none)) else (none)) else (none)) else (none)) else (none)) = some (r1, r2, r3, r4, r5, r6, r7, r8, r9, r10, r11, r12) := H
                  have A42 := Aside0.mk A420
                  clear A420
                  by_cases c43 : 20 ≤ ji17
                  ·
                   rw [if_pos c43] at H
                   have c43b0 := eq_true c43
                   have c43b1 : decide (20 ≤ ji17) = true := decide_eq_true c43
                   clear c43
                   by_cases c44 : ji17 ≤ (l0.length : Int)
                   ·
                    rw [if_pos c44] at H
                    have c44b0 := eq_true c44
                    have c44b1 : decide (ji17 ≤ (l0.length : Int)) = true := decide_eq_true c44
                    clear c44
                    obtain ⟨y290, hy290⟩ : ∃ y_ : List Int, y_ = ((l0.take (ji17 : Int).toNat).drop 20) := ⟨_, rfl⟩
                    replace H : (if 0 ≤ ji17 then (if ji17 ≤ t276 then (if t276 ≤ (l0.length : Int) then (some (rd l0 1, IntKind.u16.wrap (t279), ((((Int.tdiv (rd l0 6) 64) % 256) % 2) == 1), ((((Int.tdiv (rd l0 6) 32) % 256) % 2) == 1), Int.tmod t285 8192, rd l0 8, rd l0 9, (wrap64 ((wrap64 (65536 * t286)) + t287)) % 4294967296, (wrap64 ((wrap64 (65536 * t288)) + t289)) % 4294967296, y290, ((l0.take (t276 : Int).toNat).drop (ji17 : Int).toNat), 0)) else (none)) else (none)) else (none)) = some (r1, r2, r3, r4, r5, r6, r7, r8, r9, r10, r11, r12) := by first | (rw [hy290]; with_reducible exact H) | (have H2_ := (Option.bind_some _ _).symm.trans H; rw [hy290]; with_reducible exact H2_) | (have H2_ := (Option.bind_some _ _).symm.trans H; with_reducible exact H2_) | with_reducible exact H | (rw [hy290]; exact H) | exact H
                    have Ny290 := Aside0.mk hy290
                    clear hy290
                    by_cases c45 : 0 ≤ ji17
                    ·
                     rw [if_pos c45] at H
                     have c45b0 := eq_true c45
                     have c45b1 : decide (0 ≤ ji17) = true := decide_eq_true c45
                     clear c45
                     by_cases c46 : ji17 ≤ t276
                     ·
                      rw [if_pos c46] at H
                      have c46b0 := eq_true c46
                      have c46b1 : decide (ji17 ≤ t276) = true := decide_eq_true c46
                      clear c46
                      by_cases c47 : t276 ≤ (l0.length : Int)
                      ·
                       rw [if_pos c47] at H
                       have c47b0 := eq_true c47
                       have c47b1 : decide (t276 ≤ (l0.length : Int)) = true := decide_eq_true c47
                       clear c47
                       obtain ⟨y295, hy295⟩ : ∃ y_ : List Int, y_ = ((l0.take (t276 : Int).toNat).drop (ji17 : Int).toNat) := ⟨_, rfl⟩
                       replace H : (some (rd l0 1, IntKind.u16.wrap (t279), ((((Int.tdiv (rd l0 6) 64) % 256) % 2) == 1), ((((Int.tdiv (rd l0 6) 32) % 256) % 2) == 1), Int.tmod t285 8192, rd l0 8, rd l0 9, (wrap64 ((wrap64 (65536 * t286)) + t287)) % 4294967296, (wrap64 ((wrap64 (65536 * t288)) + t289)) % 4294967296, y290, y295, 0)) = some (r1, r2, r3, r4, r5, r6, r7, r8, r9, r10, r11, r12) := by first | (rw [hy295]; with_reducible exact H) | (have H2_ := (Option.bind_some _ _).symm.trans H; rw [hy295]; with_reducible exact H2_) | (have H2_ := (Option.bind_some _ _).symm.trans H; with_reducible exact H2_) | with_reducible exact H | (rw [hy295]; exact H) | exact H
                       have Ny295 := Aside0.mk hy295
                       clear hy295
                       simp only [Option.some.injEq, Prod.mk.injEq] at H
                       obtain ⟨rfl, rfl, rfl, rfl, rfl, rfl, rfl, rfl, rfl, rfl, rfl, rfl⟩ := H
                       try go_wp2
                       have n0_ := Aside0.mk (Kd.V_drew HO_0.out)
                       have n1_ := Aside0.mk (blk_drew BK266.out)
                       have n2_ := Aside0.mk (below_drew1 HB.out)
                       clear HO_0
                       clear BK266
                       clear HB
                       have HO_0 := n0_
                       have BK266 := n1_
                       have HB := n2_
                       clear n0_ n1_ n2_
                       have p278 : 0 ≤ (1 : Int) := (by omega)
                       have q278 : 1 < (l0.length : Int) := of_decide_eq_true (by first | (with_reducible assumption) | assumption)
                       obtain ⟨ad278, e278, hx278_0⟩ := Kd.at_int (Kd.V_reads' HO_0.out).2.2 1 p278 q278
                       obtain rfl : ad269 = ad278 := (by injection e278)
                       (try simp only [show (1 : Int).toNat = 1 from rfl, Nat.reduceMul, Nat.reduceEqDiff, Go.Addr.add, ↓reduceIte] at hx278_0)
                       have qi278 : (1 < l0.length) = True := eq_true (by omega)
                       (try rw [show ((1 : Int)).toNat = 1 from rfl] at hx278_0)
                       replace p278 := eq_true p278
                       replace q278 := eq_true q278
                       have p280 : 0 ≤ (8 : Int) := (by omega)
                       have q280 : 8 < (l0.length : Int) := of_decide_eq_true (by first | (with_reducible assumption) | assumption)
                       obtain ⟨ad280, e280, hx280_0⟩ := Kd.at_int (Kd.V_reads' HO_0.out).2.2 8 p280 q280
                       obtain rfl : ad269 = ad280 := (by injection e280)
                       (try simp only [show (8 : Int).toNat = 8 from rfl, Nat.reduceMul, Nat.reduceEqDiff, Go.Addr.add, ↓reduceIte] at hx280_0)
                       have qi280 : (8 < l0.length) = True := eq_true (by omega)
                       (try rw [show ((8 : Int)).toNat = 8 from rfl] at hx280_0)
                       replace p280 := eq_true p280
                       replace q280 := eq_true q280
                       have p281 : 0 ≤ (9 : Int) := (by omega)
                       have q281 : 9 < (l0.length : Int) := of_decide_eq_true (by first | (with_reducible assumption) | assumption)
                       obtain ⟨ad281, e281, hx281_0⟩ := Kd.at_int (Kd.V_reads' HO_0.out).2.2 9 p281 q281
                       obtain rfl : ad269 = ad281 := (by injection e281)
                       (try simp only [show (9 : Int).toNat = 9 from rfl, Nat.reduceMul, Nat.reduceEqDiff, Go.Addr.add, ↓reduceIte] at hx281_0)
                       have qi281 : (9 < l0.length) = True := eq_true (by omega)
                       (try rw [show ((9 : Int)).toNat = 9 from rfl] at hx281_0)
                       replace p281 := eq_true p281
                       replace q281 := eq_true q281
                       refine start_ (n := 15) (S := fun w' => w'.cell? ⟨ad269.block, ad269.off + 1, none⟩ = some (.int .u8 (rd l0 1)) ∧ w'.cell? ⟨ad269.block, ad269.off + 8, none⟩ = some (.int .u8 (rd l0 8)) ∧ w'.cell? ⟨ad269.block, ad269.off + 9, none⟩ = some (.int .u8 (rd l0 9))) (ds := []) (bb 15 0) (by kernel_rfl) rfl rfl ⟨hx278_0, hx280_0, hx281_0⟩ (fun hHeld => ?_); refine with_tabW towroperef06_Get.tab15 towroperef06_Get.bits15 (fun HT_ HW_ => ?_)
                       generalize wc.drew = w48 at HO_0 BK266 HB hx278_0 hx280_0 hx281_0 hHeld ⊢
                       refine pure_ (i := 0) (N := some 56) (v := ?_) (a' := ?_) (bb 15 1) rfl rfl (any_of HT_.out (by kernel_rfl)) (fun _ _ _ h => h) (Or.inl ⟨by rfl, ?_⟩) ?_ ?_
                       rotate_left
                       ·
                        intro w'
                        go_simp
                        with_reducible rfl
                       rotate_left
                       ·
                        simp only [Act.put, List.setIfInBounds_toArray, List.set_cons_zero, List.set_cons_succ, i64_w, i32_w]
                        rfl
                       refine pure_ (i := 1) (N := some 57) (v := ?_) (a' := ?_) (bb 15 3) rfl rfl (any_of HT_.out (by kernel_rfl)) (fun _ _ _ h => h) (Or.inl ⟨by rfl, ?_⟩) ?_ ?_
                       rotate_left
                       ·
                        intro w'
                        go_simp
                        with_reducible rfl
                       rotate_left
                       ·
                        simp only [Act.put, List.setIfInBounds_toArray, List.set_cons_zero, List.set_cons_succ, i64_w, i32_w]
                        rfl
                       refine pure_ (i := 3) (N := some 59) (v := ?_) (a' := ?_) (bb 15 11) rfl rfl (any_of HT_.out (by kernel_rfl)) (fun _ _ _ h => h) (Or.inl ⟨by rfl, ?_⟩) ?_ ?_
                       rotate_left
                       ·
                        intro w'
                        go_simp
                        with_reducible rfl
                       rotate_left
                       ·
                        simp only [Act.put, List.setIfInBounds_toArray, List.set_cons_zero, List.set_cons_succ, i64_w, i32_w]
                        rfl
                       refine pure_ (i := 6) (N := some 62) (v := ?_) (a' := ?_) (bb 15 75) rfl rfl (any_of HT_.out (by kernel_rfl)) (fun _ _ _ h => h) (Or.inl ⟨by rfl, ?_⟩) ?_ ?_
                       rotate_left
                       ·
                        intro w'
                        go_simp
                        with_reducible rfl
                       rotate_left
                       ·
                        simp only [Act.put, List.setIfInBounds_toArray, List.set_cons_zero, List.set_cons_succ, i64_w, i32_w]
                        rfl
                       refine pure_ (i := 7) (N := some 63) (v := ?_) (a' := ?_) (bb 15 203) rfl rfl (any_of HT_.out (by kernel_rfl)) (fun _ _ _ h => h) (Or.inl ⟨by rfl, ?_⟩) ?_ ?_
                       rotate_left
                       ·
                        intro w'
                        go_simp
                        with_reducible rfl
                       rotate_left
                       ·
                        simp only [Act.put, List.setIfInBounds_toArray, List.set_cons_zero, List.set_cons_succ, i64_w, i32_w]
                        rfl
                       refine pure_ (i := 9) (N := some 65) (v := ?_) (a' := ?_) (bb 15 715) rfl rfl (any_of HT_.out (by kernel_rfl)) (fun _ _ _ h => h) (Or.inl ⟨by rfl, ?_⟩) ?_ ?_
                       rotate_left
                       ·
                        intro w'
                        go_simp
                        with_reducible rfl
                       rotate_left
                       ·
                        simp only [Act.put, List.setIfInBounds_toArray, List.set_cons_zero, List.set_cons_succ, i64_w, i32_w]
                        rfl
                       refine pure_ (i := 10) (N := some 66) (v := ?_) (a' := ?_) (bb 15 1739) rfl rfl (any_of HT_.out (by kernel_rfl)) (fun _ _ _ h => h) (Or.inl ⟨by rfl, ?_⟩) ?_ ?_
                       rotate_left
                       ·
                        intro w'
                        go_simp
                        with_reducible rfl
                       rotate_left
                       ·
                        simp only [Act.put, List.setIfInBounds_toArray, List.set_cons_zero, List.set_cons_succ, i64_w, i32_w]
                        rfl
                       refine take_ (i := 2) (N := some 58) (v := ?_) (a' := ?_) (bb 15 1743) rfl rfl (take_ofW HT_.out HW_.out (by kernel_rfl)) (fun _ _ _ h => h) (Or.inl ⟨by rfl, ?_⟩) hHeld ?_ ?_
                       rotate_left
                       ·
                        rintro w' ⟨s0, s1, s2⟩
                        go_simp
                        with_reducible rfl
                       rotate_left
                       ·
                        simp only [Act.put, List.setIfInBounds_toArray, List.set_cons_zero, List.set_cons_succ, i64_w, i32_w]
                        rfl
                       refine take_ (i := 8) (N := some 64) (v := ?_) (a' := ?_) (bb 15 1999) rfl rfl (take_ofW HT_.out HW_.out (by kernel_rfl)) (fun _ _ _ h => h) (Or.inl ⟨by rfl, ?_⟩) hHeld ?_ ?_
                       rotate_left
                       ·
                        rintro w' ⟨s0, s1, s2⟩
                        go_simp
                        with_reducible rfl
                       rotate_left
                       ·
                        simp only [Act.put, List.setIfInBounds_toArray, List.set_cons_zero, List.set_cons_succ, i64_w, i32_w]
                        rfl
                       refine take_ (i := 11) (N := some 67) (v := ?_) (a' := ?_) (bb 15 4047) rfl rfl (take_ofW HT_.out HW_.out (by kernel_rfl)) (fun _ _ _ h => h) (Or.inl ⟨by rfl, ?_⟩) hHeld ?_ ?_
                       rotate_left
                       ·
                        rintro w' ⟨s0, s1, s2⟩
                        go_simp
                        with_reducible rfl
                       rotate_left
                       ·
                        simp only [Act.put, List.setIfInBounds_toArray, List.set_cons_zero, List.set_cons_succ, i64_w, i32_w]
                        rfl
                       refine join_ (σ := Nat) 1 (bb 15 16383) (fun s_ => [(60, .int .i64 t279), (6, .pointer (some ⟨s_, 0, none⟩)), (61, .int .u16 (IntKind.u16.wrap (t279))), (68, .agg #[.int .u8 (rd l0 1), .int .u16 (IntKind.u16.wrap (t279)), .bool false, .bool false, .int .i64 0, .int .u8 (rd l0 8), .int .u8 (rd l0 9), .int .u32 0, .int .u32 0, .slice none 0 0, .slice none 0 0])]) (fun s_ w' => (w'.cell? ⟨ad269.block, ad269.off + 1, none⟩ = some (.int .u8 (rd l0 1)) ∧ w'.cell? ⟨ad269.block, ad269.off + 8, none⟩ = some (.int .u8 (rd l0 8)) ∧ w'.cell? ⟨ad269.block, ad269.off + 9, none⟩ = some (.int .u8 (rd l0 9))) ∧ (Kd.V (Kd.int .u8) 5 w' w.heap.size (fun k_ => (P0_ k_ ∨ w.heap.size ≤ k_) ∧ k_ ≠ gb266 ∧ k_ ≠ s_) (.slice (some ad269) l0.length c0) l0) ∧ (w'.heap[gb266]? = some (.cells #[.int .u8 0, .int .u16 0, .bool false, .bool false, .int .i64 0, .int .u8 0, .int .u8 0, .int .u32 0, .int .u32 0, .slice none 0 0, .slice none 0 0] 37 (0, 0))) ∧ (w'.heap[s_]? = some (.cells #[.int .u8 0, .int .u16 0, .bool false, .bool false, .int .i64 0, .int .u8 0, .int .u8 0, .int .u32 0, .int .u32 0, .slice none 0 0, .slice none 0 0] 37 (0, 0))) ∧ (w.heap.size ≤ s_) ∧ (w.heap.size ≤ s_) ∧ (gb266 ≠ s_) ∧ (s_ ≠ gb266) ∧ (Below w.heap.size w w')) ?_ ?_
                       rotate_left
                       ·
                        intro hCont
                        refine two_ (i := 4) (j := 13) (Ni := some 60) (Nj := some 6) (bb 15 4063) (bb 15 12239) rfl rfl rfl rfl (two_of HT_.out (by kernel_rfl)) (by decide) (by decide) (fun K hK => ?_) (fun K hK => ?_)
                        ·
                         skip
                         refine goes_ Try.func58 (by kernel_rfl) rfl #[.slice (some ad269) l0.length c0, .int .i64 4] (by rfl) rfl rfl (by (try simp only [List.map_toArray, List.map_cons, List.map_nil]); first | done | rfl | (simp only [List.length_drop, List.length_take]; rfl) | (go_simp; done) | (go_simp; omega)) ?_
                         with_reducible refine (towroperef06_number.calls _ _ l0 4 t279 _ ?side1 ?side2 A34.out).mono ?_
                         (case side1 => repeat (first | exact (Kd.V_reads' HO_0.out).2.2 | (with_reducible refine Kd.C_alloc ?_ _) | (with_reducible refine Kd.C_drewN ?_ _) | (with_reducible refine Kd.C_drew ?_)))
                         (case side2 => exact (Kd.V_reads' HO_0.out).2.1)
                         rintro e w' ⟨rfl, ⟨nd, rfl⟩⟩
                         refine ⟨_, rfl, ?_⟩
                         refine hK.out _ _ ⟨hHeld.1, hHeld.2.1, hHeld.2.2⟩ (fun hHeld => ?_)
                         clear hK K
                         refine norm_ (a' := ?_) ?_ ?_
                         rotate_left
                         ·
                          show Act.put _ (some 60) _ = _
                          simp only [Act.put, List.setIfInBounds_toArray, List.set_cons_zero, List.set_cons_succ, i64_w, i32_w]
                          rfl
                         refine pure_ (i := 5) (N := some 61) (v := ?_) (a' := ?_) (bb 15 4095) rfl rfl (any_of HT_.out (by kernel_rfl)) (fun _ _ _ h => h) (Or.inl ⟨by rfl, ?_⟩) ?_ ?_
                         rotate_left
                         ·
                          intro w'
                          go_simp
                          with_reducible rfl
                         rotate_left
                         ·
                          simp only [Act.put, List.setIfInBounds_toArray, List.set_cons_zero, List.set_cons_succ, i64_w, i32_w]
                          rfl
                         refine pure_ (i := 12) (N := some 68) (v := ?_) (a' := ?_) (bb 15 8191) rfl rfl (any_of HT_.out (by kernel_rfl)) (fun _ _ _ h => h) (Or.inl ⟨by rfl, ?_⟩) ?_ ?_
                         rotate_left
                         ·
                          intro w'
                          go_simp
                          with_reducible rfl
                         rotate_left
                         ·
                          simp only [Act.put, List.setIfInBounds_toArray, List.set_cons_zero, List.set_cons_succ, i64_w, i32_w]
                          rfl
                         refine one_ (i := 13) (N := some 6) (bb 15 16383) rfl rfl (one_of HT_.out (by kernel_rfl)) (by decide) (fun K hK => ?_)
                         refine box_step ?hg (N := 6) ?hd (cs := #[.int .u8 0, .int .u16 0, .bool false, .bool false, .int .i64 0, .int .u8 0, .int .u8 0, .int .u32 0, .int .u32 0, .slice none 0 0, .slice none 0 0]) (t := 37) ?hr ?_; (case hd => rfl); (case hg => rfl); (case hr => first | (go_simp; done) | (go_simp; rfl))
                         intro gb282 hg w49 hbox hb
                         have HS0_ := (hb.cell (World.block_lt_of_cell? _ _ (hHeld.1))).trans (hHeld.1)
                         have HS1_ := (hb.cell (World.block_lt_of_cell? _ _ (hHeld.2.1))).trans (hHeld.2.1)
                         have HS2_ := (hb.cell (World.block_lt_of_cell? _ _ (hHeld.2.2))).trans (hHeld.2.2)
                         have n0_ := Aside0.mk (Kd.V_below (Kd.V_elderB (by (with_reducible repeat (first | apply Kd.V_alloc | apply Kd.V_drewN | apply Kd.V_drew)); exact HO_0.out) gb282 (Nat.le_of_eq hg.symm)) hb)
                         have n1_ := Aside0.mk (blk_below (g := gb266) (o := .cells #[.int .u8 0, .int .u16 0, .bool false, .bool false, .int .i64 0, .int .u8 0, .int .u8 0, .int .u32 0, .int .u32 0, .slice none 0 0, .slice none 0 0] 37 (0, 0)) (by (with_reducible repeat (first | refine blk_drewN ?_ _ | refine blk_drew ?_ | refine blk_alloc ?_ _)); exact BK266.out) hb)
                         have n2_ := Aside0.mk (below_step (by repeat (first | (with_reducible first | exact HB.out | apply below_alloc | apply pw_below_drewN | apply below_drew1 | refine below_set ?_ GE266.out) | exact HB.out)) hb)
                         have n3_ := Aside0.mk (hbox)
                         have n4_ := Aside0.mk ((by rw [hg]; exact (below_size (by repeat (first | (with_reducible first | exact HB.out | apply below_alloc | apply pw_below_drewN | apply below_drew1 | refine below_set ?_ GE266.out) | exact HB.out))) : w.heap.size ≤ gb282))
                         have n5_ := Aside0.mk ((by rw [hg]; exact (below_size (by repeat (first | (with_reducible first | exact HB.out | apply below_alloc | apply pw_below_drewN | apply below_drew1 | refine below_set ?_ GE266.out) | exact HB.out))) : w.heap.size ≤ gb282))
                         have n6_ := Aside0.mk ((by rw [hg]; exact Nat.ne_of_lt (blk_lt (g := gb266) (o := .cells #[.int .u8 0, .int .u16 0, .bool false, .bool false, .int .i64 0, .int .u8 0, .int .u8 0, .int .u32 0, .int .u32 0, .slice none 0 0, .slice none 0 0] 37 (0, 0)) (by (with_reducible repeat (first | refine blk_drewN ?_ _ | refine blk_drew ?_ | refine blk_alloc ?_ _)); exact BK266.out)) : gb266 ≠ gb282))
                         have n7_ := Aside0.mk ((by rw [hg]; exact Nat.ne_of_gt (blk_lt (g := gb266) (o := .cells #[.int .u8 0, .int .u16 0, .bool false, .bool false, .int .i64 0, .int .u8 0, .int .u8 0, .int .u32 0, .int .u32 0, .slice none 0 0, .slice none 0 0] 37 (0, 0)) (by (with_reducible repeat (first | refine blk_drewN ?_ _ | refine blk_drew ?_ | refine blk_alloc ?_ _)); exact BK266.out)) : gb282 ≠ gb266))
                         clear HO_0
                         clear BK266
                         clear HB
                         have HO_0 := n0_
                         have BK266 := n1_
                         have HB := n2_
                         have BK282 := n3_
                         have GW282 := n4_
                         have GE282 := n5_
                         have NB266_282 := n6_
                         have NB282_266 := n7_
                         clear n0_ n1_ n2_ n3_ n4_ n5_ n6_ n7_
                         clear hb hbox hg
                         refine hK.out _ _ ⟨HS0_, HS1_, HS2_⟩ (fun hHeld => ?_)
                         clear hK K
                         refine norm_ (a' := ?_) ?_ ?_
                         rotate_left
                         ·
                          show Act.put _ (some 6) _ = _
                          simp only [Act.put, List.setIfInBounds_toArray, List.set_cons_zero, List.set_cons_succ, i64_w, i32_w]
                          rfl
                         exact norm_ (by simp only [putAll, Act.put, List.setIfInBounds_toArray, List.set_cons_zero, List.set_cons_succ]) (hCont (gb282) _ ⟨hHeld, (by (with_reducible repeat (first | apply Kd.V_alloc | apply Kd.V_drewN | apply Kd.V_drew)); exact Kd.V_mono HO_0.out (fun _ hk => ⟨hk.1.1, ⟨hk.1.2, hk.2⟩⟩)), (by (with_reducible repeat (first | refine blk_drewN ?_ _ | refine blk_drew ?_ | refine blk_alloc ?_ _)); exact BK266.out), (by (with_reducible repeat (first | refine blk_drewN ?_ _ | refine blk_drew ?_ | refine blk_alloc ?_ _)); exact BK282.out), GW282.out, GE282.out, NB266_282.out, NB282_266.out, (by repeat (first | (with_reducible first | exact HB.out | apply below_alloc | apply pw_below_drewN | apply below_drew1 | refine below_set ?_ GE266.out | refine below_set ?_ GE282.out) | exact HB.out))⟩)
                        ·
                         skip
                         refine box_step ?hg (N := 6) ?hd (cs := #[.int .u8 0, .int .u16 0, .bool false, .bool false, .int .i64 0, .int .u8 0, .int .u8 0, .int .u32 0, .int .u32 0, .slice none 0 0, .slice none 0 0]) (t := 37) ?hr ?_; (case hd => rfl); (case hg => rfl); (case hr => first | (go_simp; done) | (go_simp; rfl))
                         intro gb282 hg w49 hbox hb
                         have HS0_ := (hb.cell (World.block_lt_of_cell? _ _ (hHeld.1))).trans (hHeld.1)
                         have HS1_ := (hb.cell (World.block_lt_of_cell? _ _ (hHeld.2.1))).trans (hHeld.2.1)
                         have HS2_ := (hb.cell (World.block_lt_of_cell? _ _ (hHeld.2.2))).trans (hHeld.2.2)
                         have n0_ := Aside0.mk (Kd.V_below (Kd.V_elderB (by (with_reducible repeat (first | apply Kd.V_alloc | apply Kd.V_drewN | apply Kd.V_drew)); exact HO_0.out) gb282 (Nat.le_of_eq hg.symm)) hb)
                         have n1_ := Aside0.mk (blk_below (g := gb266) (o := .cells #[.int .u8 0, .int .u16 0, .bool false, .bool false, .int .i64 0, .int .u8 0, .int .u8 0, .int .u32 0, .int .u32 0, .slice none 0 0, .slice none 0 0] 37 (0, 0)) (by (with_reducible repeat (first | refine blk_drewN ?_ _ | refine blk_drew ?_ | refine blk_alloc ?_ _)); exact BK266.out) hb)
                         have n2_ := Aside0.mk (below_step (by repeat (first | (with_reducible first | exact HB.out | apply below_alloc | apply pw_below_drewN | apply below_drew1 | refine below_set ?_ GE266.out) | exact HB.out)) hb)
                         have n3_ := Aside0.mk (hbox)
                         have n4_ := Aside0.mk ((by rw [hg]; exact (below_size (by repeat (first | (with_reducible first | exact HB.out | apply below_alloc | apply pw_below_drewN | apply below_drew1 | refine below_set ?_ GE266.out) | exact HB.out))) : w.heap.size ≤ gb282))
                         have n5_ := Aside0.mk ((by rw [hg]; exact (below_size (by repeat (first | (with_reducible first | exact HB.out | apply below_alloc | apply pw_below_drewN | apply below_drew1 | refine below_set ?_ GE266.out) | exact HB.out))) : w.heap.size ≤ gb282))
                         have n6_ := Aside0.mk ((by rw [hg]; exact Nat.ne_of_lt (blk_lt (g := gb266) (o := .cells #[.int .u8 0, .int .u16 0, .bool false, .bool false, .int .i64 0, .int .u8 0, .int .u8 0, .int .u32 0, .int .u32 0, .slice none 0 0, .slice none 0 0] 37 (0, 0)) (by (with_reducible repeat (first | refine blk_drewN ?_ _ | refine blk_drew ?_ | refine blk_alloc ?_ _)); exact BK266.out)) : gb266 ≠ gb282))
                         have n7_ := Aside0.mk ((by rw [hg]; exact Nat.ne_of_gt (blk_lt (g := gb266) (o := .cells #[.int .u8 0, .int .u16 0, .bool false, .bool false, .int .i64 0, .int .u8 0, .int .u8 0, .int .u32 0, .int .u32 0, .slice none 0 0, .slice none 0 0] 37 (0, 0)) (by (with_reducible repeat (first | refine blk_drewN ?_ _ | refine blk_drew ?_ | refine blk_alloc ?_ _)); exact BK266.out)) : gb282 ≠ gb266))
                         clear HO_0
                         clear BK266
                         clear HB
                         have HO_0 := n0_
                         have BK266 := n1_
                         have HB := n2_
                         have BK282 := n3_
                         have GW282 := n4_
                         have GE282 := n5_
                         have NB266_282 := n6_
                         have NB282_266 := n7_
                         clear n0_ n1_ n2_ n3_ n4_ n5_ n6_ n7_
                         clear hb hbox hg
                         refine hK.out _ _ ⟨HS0_, HS1_, HS2_⟩ (fun hHeld => ?_)
                         clear hK K
                         refine norm_ (a' := ?_) ?_ ?_
                         rotate_left
                         ·
                          show Act.put _ (some 6) _ = _
                          simp only [Act.put, List.setIfInBounds_toArray, List.set_cons_zero, List.set_cons_succ, i64_w, i32_w]
                          rfl
                         refine one_ (i := 4) (N := some 60) (bb 15 12255) rfl rfl (one_of HT_.out (by kernel_rfl)) (by decide) (fun K hK => ?_)
                         refine goes_ Try.func58 (by kernel_rfl) rfl #[.slice (some ad269) l0.length c0, .int .i64 4] (by rfl) rfl rfl (by (try simp only [List.map_toArray, List.map_cons, List.map_nil]); first | done | rfl | (simp only [List.length_drop, List.length_take]; rfl) | (go_simp; done) | (go_simp; omega)) ?_
                         with_reducible refine (towroperef06_number.calls _ _ l0 4 t279 _ ?side1 ?side2 A34.out).mono ?_
                         (case side1 => repeat (first | exact (Kd.V_reads' HO_0.out).2.2 | (with_reducible refine Kd.C_alloc ?_ _) | (with_reducible refine Kd.C_drewN ?_ _) | (with_reducible refine Kd.C_drew ?_)))
                         (case side2 => exact (Kd.V_reads' HO_0.out).2.1)
                         rintro e w' ⟨rfl, ⟨nd, rfl⟩⟩
                         refine ⟨_, rfl, ?_⟩
                         refine hK.out _ _ ⟨hHeld.1, hHeld.2.1, hHeld.2.2⟩ (fun hHeld => ?_)
                         clear hK K
                         refine norm_ (a' := ?_) ?_ ?_
                         rotate_left
                         ·
                          show Act.put _ (some 60) _ = _
                          simp only [Act.put, List.setIfInBounds_toArray, List.set_cons_zero, List.set_cons_succ, i64_w, i32_w]
                          rfl
                         refine pure_ (i := 5) (N := some 61) (v := ?_) (a' := ?_) (bb 15 12287) rfl rfl (any_of HT_.out (by kernel_rfl)) (fun _ _ _ h => h) (Or.inl ⟨by rfl, ?_⟩) ?_ ?_
                         rotate_left
                         ·
                          intro w'
                          go_simp
                          with_reducible rfl
                         rotate_left
                         ·
                          simp only [Act.put, List.setIfInBounds_toArray, List.set_cons_zero, List.set_cons_succ, i64_w, i32_w]
                          rfl
                         refine pure_ (i := 12) (N := some 68) (v := ?_) (a' := ?_) (bb 15 16383) rfl rfl (any_of HT_.out (by kernel_rfl)) (fun _ _ _ h => h) (Or.inl ⟨by rfl, ?_⟩) ?_ ?_
                         rotate_left
                         ·
                          intro w'
                          go_simp
                          with_reducible rfl
                         rotate_left
                         ·
                          simp only [Act.put, List.setIfInBounds_toArray, List.set_cons_zero, List.set_cons_succ, i64_w, i32_w]
                          rfl
                         exact norm_ (by simp only [putAll, Act.put, List.setIfInBounds_toArray, List.set_cons_zero, List.set_cons_succ]) (hCont (gb282) _ ⟨hHeld, (by (with_reducible repeat (first | apply Kd.V_alloc | apply Kd.V_drewN | apply Kd.V_drew)); exact Kd.V_mono HO_0.out (fun _ hk => ⟨hk.1.1, ⟨hk.1.2, hk.2⟩⟩)), (by (with_reducible repeat (first | refine blk_drewN ?_ _ | refine blk_drew ?_ | refine blk_alloc ?_ _)); exact BK266.out), (by (with_reducible repeat (first | refine blk_drewN ?_ _ | refine blk_drew ?_ | refine blk_alloc ?_ _)); exact BK282.out), GW282.out, GE282.out, NB266_282.out, NB282_266.out, (by repeat (first | (with_reducible first | exact HB.out | apply below_alloc | apply pw_below_drewN | apply below_drew1 | refine below_set ?_ GE266.out | refine below_set ?_ GE282.out) | exact HB.out))⟩)
                       rintro gb282 w50 ⟨hS_, h0_, h1_, h2_, h3_, h4_, h5_, h6_, h7_⟩
                       have n0_ : Aside0 (Kd.V (Kd.int .u8) 5 w50 w.heap.size (fun k_ => (P0_ k_ ∨ w.heap.size ≤ k_) ∧ k_ ≠ gb266 ∧ k_ ≠ gb282) (.slice (some ad269) l0.length c0) l0) := ⟨h0_⟩
                       have n1_ : Aside0 (w50.heap[gb266]? = some (.cells #[.int .u8 0, .int .u16 0, .bool false, .bool false, .int .i64 0, .int .u8 0, .int .u8 0, .int .u32 0, .int .u32 0, .slice none 0 0, .slice none 0 0] 37 (0, 0))) := ⟨h1_⟩
                       have n2_ : Aside0 (w50.heap[gb282]? = some (.cells #[.int .u8 0, .int .u16 0, .bool false, .bool false, .int .i64 0, .int .u8 0, .int .u8 0, .int .u32 0, .int .u32 0, .slice none 0 0, .slice none 0 0] 37 (0, 0))) := ⟨h2_⟩
                       have n3_ : Aside0 (w.heap.size ≤ gb282) := ⟨h3_⟩
                       have n4_ : Aside0 (w.heap.size ≤ gb282) := ⟨h4_⟩
                       have n5_ : Aside0 (gb266 ≠ gb282) := ⟨h5_⟩
                       have n6_ : Aside0 (gb282 ≠ gb266) := ⟨h6_⟩
                       have n7_ : Aside0 (Below w.heap.size w w50) := ⟨h7_⟩
                       clear HO_0
                       clear BK266
                       clear HB
                       clear h0_ h1_ h2_ h3_ h4_ h5_ h6_ h7_
                       have HO_0 := n0_
                       have BK266 := n1_
                       have BK282 := n2_
                       have GW282 := n3_
                       have GE282 := n4_
                       have NB266_282 := n5_
                       have NB282_266 := n6_
                       have HB := n7_
                       clear n0_ n1_ n2_ n3_ n4_ n5_ n6_ n7_
                       have hHeld : w50.cell? ⟨ad269.block, ad269.off + 1, none⟩ = some (.int .u8 (rd l0 1)) ∧ w50.cell? ⟨ad269.block, ad269.off + 8, none⟩ = some (.int .u8 (rd l0 8)) ∧ w50.cell? ⟨ad269.block, ad269.off + 9, none⟩ = some (.int .u8 (rd l0 9)) := hS_
                       refine norm_ (a' := ?_) ?_ ?_
                       rotate_left
                       ·
                        simp only [putAll, Act.put, List.setIfInBounds_toArray, List.set_cons_zero, List.set_cons_succ]
                        rfl
                       refine one_ (i := 14) (N := none) (bb 15 32767) rfl rfl (one_of HT_.out (by kernel_rfl)) (by decide) (fun K hK => ?_)
                       have hs51 : w50.cell? ⟨gb282, 0, none⟩ = some (.int .u8 0) := (blk_cell BK282.out 0).trans rfl
                       have hfs51 := blk_frozen BK282.out 0
                       have hns51_0 := NB266_282.out
                       have hms51_0 := NB282_266.out
                       have hs52 : w50.cell? ⟨gb282, 1, none⟩ = some (.int .u16 0) := (blk_cell BK282.out 1).trans rfl
                       have hfs52 := blk_frozen BK282.out 1
                       have hns52_0 := NB266_282.out
                       have hms52_0 := NB282_266.out
                       have hs53 : w50.cell? ⟨gb282, 2, none⟩ = some (.bool false) := (blk_cell BK282.out 2).trans rfl
                       have hfs53 := blk_frozen BK282.out 2
                       have hns53_0 := NB266_282.out
                       have hms53_0 := NB282_266.out
                       have hs54 : w50.cell? ⟨gb282, 3, none⟩ = some (.bool false) := (blk_cell BK282.out 3).trans rfl
                       have hfs54 := blk_frozen BK282.out 3
                       have hns54_0 := NB266_282.out
                       have hms54_0 := NB282_266.out
                       have hs55 : w50.cell? ⟨gb282, 4, none⟩ = some (.int .i64 0) := (blk_cell BK282.out 4).trans rfl
                       have hfs55 := blk_frozen BK282.out 4
                       have hns55_0 := NB266_282.out
                       have hms55_0 := NB282_266.out
                       have hs56 : w50.cell? ⟨gb282, 5, none⟩ = some (.int .u8 0) := (blk_cell BK282.out 5).trans rfl
                       have hfs56 := blk_frozen BK282.out 5
                       have hns56_0 := NB266_282.out
                       have hms56_0 := NB282_266.out
                       have hs57 : w50.cell? ⟨gb282, 6, none⟩ = some (.int .u8 0) := (blk_cell BK282.out 6).trans rfl
                       have hfs57 := blk_frozen BK282.out 6
                       have hns57_0 := NB266_282.out
                       have hms57_0 := NB282_266.out
                       have hs58 : w50.cell? ⟨gb282, 7, none⟩ = some (.int .u32 0) := (blk_cell BK282.out 7).trans rfl
                       have hfs58 := blk_frozen BK282.out 7
                       have hns58_0 := NB266_282.out
                       have hms58_0 := NB282_266.out
                       have hs59 : w50.cell? ⟨gb282, 8, none⟩ = some (.int .u32 0) := (blk_cell BK282.out 8).trans rfl
                       have hfs59 := blk_frozen BK282.out 8
                       have hns59_0 := NB266_282.out
                       have hms59_0 := NB282_266.out
                       have hs60 : w50.cell? ⟨gb282, 9, none⟩ = some (.slice none 0 0) := (blk_cell BK282.out 9).trans rfl
                       have hfs60 := blk_frozen BK282.out 9
                       have hns60_0 := NB266_282.out
                       have hms60_0 := NB282_266.out
                       have hs61 : w50.cell? ⟨gb282, 10, none⟩ = some (.slice none 0 0) := (blk_cell BK282.out 10).trans rfl
                       have hfs61 := blk_frozen BK282.out 10
                       have hns61_0 := NB266_282.out
                       have hms61_0 := NB282_266.out
                       refine skip_ (w1 := ?_) (by rfl) rfl ?_ ?_
                       rotate_left
                       ·
                        go_simp
                        rfl
                       refine hK.out _ _ ⟨((cell_far (p := ⟨gb282, _, none⟩) (by first | exact Kd.own_blk (Kd.V_away HO_0.out (fun _ hk => hk.2.2)) | (rw [add_block]; exact Kd.own_blk (Kd.V_away HO_0.out (fun _ hk => hk.2.2))) | (show (Addr.add _ _).block ≠ _; rw [add_block]; exact Kd.own_blk (Kd.V_away HO_0.out (fun _ hk => hk.2.2))) | (dsimp only; exact Kd.own_blk (Kd.V_away HO_0.out (fun _ hk => hk.2.2)))) _).trans (((cell_far (p := ⟨gb282, _, none⟩) (by first | exact Kd.own_blk (Kd.V_away HO_0.out (fun _ hk => hk.2.2)) | (rw [add_block]; exact Kd.own_blk (Kd.V_away HO_0.out (fun _ hk => hk.2.2))) | (show (Addr.add _ _).block ≠ _; rw [add_block]; exact Kd.own_blk (Kd.V_away HO_0.out (fun _ hk => hk.2.2))) | (dsimp only; exact Kd.own_blk (Kd.V_away HO_0.out (fun _ hk => hk.2.2)))) _).trans (((cell_far (p := ⟨gb282, _, none⟩) (by first | exact Kd.own_blk (Kd.V_away HO_0.out (fun _ hk => hk.2.2)) | (rw [add_block]; exact Kd.own_blk (Kd.V_away HO_0.out (fun _ hk => hk.2.2))) | (show (Addr.add _ _).block ≠ _; rw [add_block]; exact Kd.own_blk (Kd.V_away HO_0.out (fun _ hk => hk.2.2))) | (dsimp only; exact Kd.own_blk (Kd.V_away HO_0.out (fun _ hk => hk.2.2)))) _).trans (((cell_far (p := ⟨gb282, _, none⟩) (by first | exact Kd.own_blk (Kd.V_away HO_0.out (fun _ hk => hk.2.2)) | (rw [add_block]; exact Kd.own_blk (Kd.V_away HO_0.out (fun _ hk => hk.2.2))) | (show (Addr.add _ _).block ≠ _; rw [add_block]; exact Kd.own_blk (Kd.V_away HO_0.out (fun _ hk => hk.2.2))) | (dsimp only; exact Kd.own_blk (Kd.V_away HO_0.out (fun _ hk => hk.2.2)))) _).trans (((cell_far (p := ⟨gb282, _, none⟩) (by first | exact Kd.own_blk (Kd.V_away HO_0.out (fun _ hk => hk.2.2)) | (rw [add_block]; exact Kd.own_blk (Kd.V_away HO_0.out (fun _ hk => hk.2.2))) | (show (Addr.add _ _).block ≠ _; rw [add_block]; exact Kd.own_blk (Kd.V_away HO_0.out (fun _ hk => hk.2.2))) | (dsimp only; exact Kd.own_blk (Kd.V_away HO_0.out (fun _ hk => hk.2.2)))) _).trans (((cell_far (p := ⟨gb282, _, none⟩) (by first | exact Kd.own_blk (Kd.V_away HO_0.out (fun _ hk => hk.2.2)) | (rw [add_block]; exact Kd.own_blk (Kd.V_away HO_0.out (fun _ hk => hk.2.2))) | (show (Addr.add _ _).block ≠ _; rw [add_block]; exact Kd.own_blk (Kd.V_away HO_0.out (fun _ hk => hk.2.2))) | (dsimp only; exact Kd.own_blk (Kd.V_away HO_0.out (fun _ hk => hk.2.2)))) _).trans (((cell_far (p := ⟨gb282, _, none⟩) (by first | exact Kd.own_blk (Kd.V_away HO_0.out (fun _ hk => hk.2.2)) | (rw [add_block]; exact Kd.own_blk (Kd.V_away HO_0.out (fun _ hk => hk.2.2))) | (show (Addr.add _ _).block ≠ _; rw [add_block]; exact Kd.own_blk (Kd.V_away HO_0.out (fun _ hk => hk.2.2))) | (dsimp only; exact Kd.own_blk (Kd.V_away HO_0.out (fun _ hk => hk.2.2)))) _).trans (((cell_far (p := ⟨gb282, _, none⟩) (by first | exact Kd.own_blk (Kd.V_away HO_0.out (fun _ hk => hk.2.2)) | (rw [add_block]; exact Kd.own_blk (Kd.V_away HO_0.out (fun _ hk => hk.2.2))) | (show (Addr.add _ _).block ≠ _; rw [add_block]; exact Kd.own_blk (Kd.V_away HO_0.out (fun _ hk => hk.2.2))) | (dsimp only; exact Kd.own_blk (Kd.V_away HO_0.out (fun _ hk => hk.2.2)))) _).trans (((cell_far (p := ⟨gb282, _, none⟩) (by first | exact Kd.own_blk (Kd.V_away HO_0.out (fun _ hk => hk.2.2)) | (rw [add_block]; exact Kd.own_blk (Kd.V_away HO_0.out (fun _ hk => hk.2.2))) | (show (Addr.add _ _).block ≠ _; rw [add_block]; exact Kd.own_blk (Kd.V_away HO_0.out (fun _ hk => hk.2.2))) | (dsimp only; exact Kd.own_blk (Kd.V_away HO_0.out (fun _ hk => hk.2.2)))) _).trans (((cell_far (p := ⟨gb282, _, none⟩) (by first | exact Kd.own_blk (Kd.V_away HO_0.out (fun _ hk => hk.2.2)) | (rw [add_block]; exact Kd.own_blk (Kd.V_away HO_0.out (fun _ hk => hk.2.2))) | (show (Addr.add _ _).block ≠ _; rw [add_block]; exact Kd.own_blk (Kd.V_away HO_0.out (fun _ hk => hk.2.2))) | (dsimp only; exact Kd.own_blk (Kd.V_away HO_0.out (fun _ hk => hk.2.2)))) _).trans (((cell_far (p := ⟨gb282, _, none⟩) (by first | exact Kd.own_blk (Kd.V_away HO_0.out (fun _ hk => hk.2.2)) | (rw [add_block]; exact Kd.own_blk (Kd.V_away HO_0.out (fun _ hk => hk.2.2))) | (show (Addr.add _ _).block ≠ _; rw [add_block]; exact Kd.own_blk (Kd.V_away HO_0.out (fun _ hk => hk.2.2))) | (dsimp only; exact Kd.own_blk (Kd.V_away HO_0.out (fun _ hk => hk.2.2)))) _).trans (hHeld.1)))))))))))))))))))))), ((cell_far (p := ⟨gb282, _, none⟩) (by first | exact Kd.own_blk (Kd.V_away HO_0.out (fun _ hk => hk.2.2)) | (rw [add_block]; exact Kd.own_blk (Kd.V_away HO_0.out (fun _ hk => hk.2.2))) | (show (Addr.add _ _).block ≠ _; rw [add_block]; exact Kd.own_blk (Kd.V_away HO_0.out (fun _ hk => hk.2.2))) | (dsimp only; exact Kd.own_blk (Kd.V_away HO_0.out (fun _ hk => hk.2.2)))) _).trans (((cell_far (p := ⟨gb282, _, none⟩) (by first | exact Kd.own_blk (Kd.V_away HO_0.out (fun _ hk => hk.2.2)) | (rw [add_block]; exact Kd.own_blk (Kd.V_away HO_0.out (fun _ hk => hk.2.2))) | (show (Addr.add _ _).block ≠ _; rw [add_block]; exact Kd.own_blk (Kd.V_away HO_0.out (fun _ hk => hk.2.2))) | (dsimp only; exact Kd.own_blk (Kd.V_away HO_0.out (fun _ hk => hk.2.2)))) _).trans (((cell_far (p := ⟨gb282, _, none⟩) (by first | exact Kd.own_blk (Kd.V_away HO_0.out (fun _ hk => hk.2.2)) | (rw [add_block]; exact Kd.own_blk (Kd.V_away HO_0.out (fun _ hk => hk.2.2))) | (show (Addr.add _ _).block ≠ _; rw [add_block]; exact Kd.own_blk (Kd.V_away HO_0.out (fun _ hk => hk.2.2))) | (dsimp only; exact Kd.own_blk (Kd.V_away HO_0.out (fun _ hk => hk.2.2)))) _).trans (((cell_far (p := ⟨gb282, _, none⟩) (by first | exact Kd.own_blk (Kd.V_away HO_0.out (fun _ hk => hk.2.2)) | (rw [add_block]; exact Kd.own_blk (Kd.V_away HO_0.out (fun _ hk => hk.2.2))) | (show (Addr.add _ _).block ≠ _; rw [add_block]; exact Kd.own_blk (Kd.V_away HO_0.out (fun _ hk => hk.2.2))) | (dsimp only; exact Kd.own_blk (Kd.V_away HO_0.out (fun _ hk => hk.2.2)))) _).trans (((cell_far (p := ⟨gb282, _, none⟩) (by first | exact Kd.own_blk (Kd.V_away HO_0.out (fun _ hk => hk.2.2)) | (rw [add_block]; exact Kd.own_blk (Kd.V_away HO_0.out (fun _ hk => hk.2.2))) | (show (Addr.add _ _).block ≠ _; rw [add_block]; exact Kd.own_blk (Kd.V_away HO_0.out (fun _ hk => hk.2.2))) | (dsimp only; exact Kd.own_blk (Kd.V_away HO_0.out (fun _ hk => hk.2.2)))) _).trans (((cell_far (p := ⟨gb282, _, none⟩) (by first | exact Kd.own_blk (Kd.V_away HO_0.out (fun _ hk => hk.2.2)) | (rw [add_block]; exact Kd.own_blk (Kd.V_away HO_0.out (fun _ hk => hk.2.2))) | (show (Addr.add _ _).block ≠ _; rw [add_block]; exact Kd.own_blk (Kd.V_away HO_0.out (fun _ hk => hk.2.2))) | (dsimp only; exact Kd.own_blk (Kd.V_away HO_0.out (fun _ hk => hk.2.2)))) _).trans (((cell_far (p := ⟨gb282, _, none⟩) (by first | exact Kd.own_blk (Kd.V_away HO_0.out (fun _ hk => hk.2.2)) | (rw [add_block]; exact Kd.own_blk (Kd.V_away HO_0.out (fun _ hk => hk.2.2))) | (show (Addr.add _ _).block ≠ _; rw [add_block]; exact Kd.own_blk (Kd.V_away HO_0.out (fun _ hk => hk.2.2))) | (dsimp only; exact Kd.own_blk (Kd.V_away HO_0.out (fun _ hk => hk.2.2)))) _).trans (((cell_far (p := ⟨gb282, _, none⟩) (by first | exact Kd.own_blk (Kd.V_away HO_0.out (fun _ hk => hk.2.2)) | (rw [add_block]; exact Kd.own_blk (Kd.V_away HO_0.out (fun _ hk => hk.2.2))) | (show (Addr.add _ _).block ≠ _; rw [add_block]; exact Kd.own_blk (Kd.V_away HO_0.out (fun _ hk => hk.2.2))) | (dsimp only; exact Kd.own_blk (Kd.V_away HO_0.out (fun _ hk => hk.2.2)))) _).trans (((cell_far (p := ⟨gb282, _, none⟩) (by first | exact Kd.own_blk (Kd.V_away HO_0.out (fun _ hk => hk.2.2)) | (rw [add_block]; exact Kd.own_blk (Kd.V_away HO_0.out (fun _ hk => hk.2.2))) | (show (Addr.add _ _).block ≠ _; rw [add_block]; exact Kd.own_blk (Kd.V_away HO_0.out (fun _ hk => hk.2.2))) | (dsimp only; exact Kd.own_blk (Kd.V_away HO_0.out (fun _ hk => hk.2.2)))) _).trans (((cell_far (p := ⟨gb282, _, none⟩) (by first | exact Kd.own_blk (Kd.V_away HO_0.out (fun _ hk => hk.2.2)) | (rw [add_block]; exact Kd.own_blk (Kd.V_away HO_0.out (fun _ hk => hk.2.2))) | (show (Addr.add _ _).block ≠ _; rw [add_block]; exact Kd.own_blk (Kd.V_away HO_0.out (fun _ hk => hk.2.2))) | (dsimp only; exact Kd.own_blk (Kd.V_away HO_0.out (fun _ hk => hk.2.2)))) _).trans (((cell_far (p := ⟨gb282, _, none⟩) (by first | exact Kd.own_blk (Kd.V_away HO_0.out (fun _ hk => hk.2.2)) | (rw [add_block]; exact Kd.own_blk (Kd.V_away HO_0.out (fun _ hk => hk.2.2))) | (show (Addr.add _ _).block ≠ _; rw [add_block]; exact Kd.own_blk (Kd.V_away HO_0.out (fun _ hk => hk.2.2))) | (dsimp only; exact Kd.own_blk (Kd.V_away HO_0.out (fun _ hk => hk.2.2)))) _).trans (hHeld.2.1)))))))))))))))))))))), ((cell_far (p := ⟨gb282, _, none⟩) (by first | exact Kd.own_blk (Kd.V_away HO_0.out (fun _ hk => hk.2.2)) | (rw [add_block]; exact Kd.own_blk (Kd.V_away HO_0.out (fun _ hk => hk.2.2))) | (show (Addr.add _ _).block ≠ _; rw [add_block]; exact Kd.own_blk (Kd.V_away HO_0.out (fun _ hk => hk.2.2))) | (dsimp only; exact Kd.own_blk (Kd.V_away HO_0.out (fun _ hk => hk.2.2)))) _).trans (((cell_far (p := ⟨gb282, _, none⟩) (by first | exact Kd.own_blk (Kd.V_away HO_0.out (fun _ hk => hk.2.2)) | (rw [add_block]; exact Kd.own_blk (Kd.V_away HO_0.out (fun _ hk => hk.2.2))) | (show (Addr.add _ _).block ≠ _; rw [add_block]; exact Kd.own_blk (Kd.V_away HO_0.out (fun _ hk => hk.2.2))) | (dsimp only; exact Kd.own_blk (Kd.V_away HO_0.out (fun _ hk => hk.2.2)))) _).trans (((cell_far (p := ⟨gb282, _, none⟩) (by first | exact Kd.own_blk (Kd.V_away HO_0.out (fun _ hk => hk.2.2)) | (rw [add_block]; exact Kd.own_blk (Kd.V_away HO_0.out (fun _ hk => hk.2.2))) | (show (Addr.add _ _).block ≠ _; rw [add_block]; exact Kd.own_blk (Kd.V_away HO_0.out (fun _ hk => hk.2.2))) | (dsimp only; exact Kd.own_blk (Kd.V_away HO_0.out (fun _ hk => hk.2.2)))) _).trans (((cell_far (p := ⟨gb282, _, none⟩) (by first | exact Kd.own_blk (Kd.V_away HO_0.out (fun _ hk => hk.2.2)) | (rw [add_block]; exact Kd.own_blk (Kd.V_away HO_0.out (fun _ hk => hk.2.2))) | (show (Addr.add _ _).block ≠ _; rw [add_block]; exact Kd.own_blk (Kd.V_away HO_0.out (fun _ hk => hk.2.2))) | (dsimp only; exact Kd.own_blk (Kd.V_away HO_0.out (fun _ hk => hk.2.2)))) _).trans (((cell_far (p := ⟨gb282, _, none⟩) (by first | exact Kd.own_blk (Kd.V_away HO_0.out (fun _ hk => hk.2.2)) | (rw [add_block]; exact Kd.own_blk (Kd.V_away HO_0.out (fun _ hk => hk.2.2))) | (show (Addr.add _ _).block ≠ _; rw [add_block]; exact Kd.own_blk (Kd.V_away HO_0.out (fun _ hk => hk.2.2))) | (dsimp only; exact Kd.own_blk (Kd.V_away HO_0.out (fun _ hk => hk.2.2)))) _).trans (((cell_far (p := ⟨gb282, _, none⟩) (by first | exact Kd.own_blk (Kd.V_away HO_0.out (fun _ hk => hk.2.2)) | (rw [add_block]; exact Kd.own_blk (Kd.V_away HO_0.out (fun _ hk => hk.2.2))) | (show (Addr.add _ _).block ≠ _; rw [add_block]; exact Kd.own_blk (Kd.V_away HO_0.out (fun _ hk => hk.2.2))) | (dsimp only; exact Kd.own_blk (Kd.V_away HO_0.out (fun _ hk => hk.2.2)))) _).trans (((cell_far (p := ⟨gb282, _, none⟩) (by first | exact Kd.own_blk (Kd.V_away HO_0.out (fun _ hk => hk.2.2)) | (rw [add_block]; exact Kd.own_blk (Kd.V_away HO_0.out (fun _ hk => hk.2.2))) | (show (Addr.add _ _).block ≠ _; rw [add_block]; exact Kd.own_blk (Kd.V_away HO_0.out (fun _ hk => hk.2.2))) | (dsimp only; exact Kd.own_blk (Kd.V_away HO_0.out (fun _ hk => hk.2.2)))) _).trans (((cell_far (p := ⟨gb282, _, none⟩) (by first | exact Kd.own_blk (Kd.V_away HO_0.out (fun _ hk => hk.2.2)) | (rw [add_block]; exact Kd.own_blk (Kd.V_away HO_0.out (fun _ hk => hk.2.2))) | (show (Addr.add _ _).block ≠ _; rw [add_block]; exact Kd.own_blk (Kd.V_away HO_0.out (fun _ hk => hk.2.2))) | (dsimp only; exact Kd.own_blk (Kd.V_away HO_0.out (fun _ hk => hk.2.2)))) _).trans (((cell_far (p := ⟨gb282, _, none⟩) (by first | exact Kd.own_blk (Kd.V_away HO_0.out (fun _ hk => hk.2.2)) | (rw [add_block]; exact Kd.own_blk (Kd.V_away HO_0.out (fun _ hk => hk.2.2))) | (show (Addr.add _ _).block ≠ _; rw [add_block]; exact Kd.own_blk (Kd.V_away HO_0.out (fun _ hk => hk.2.2))) | (dsimp only; exact Kd.own_blk (Kd.V_away HO_0.out (fun _ hk => hk.2.2)))) _).trans (((cell_far (p := ⟨gb282, _, none⟩) (by first | exact Kd.own_blk (Kd.V_away HO_0.out (fun _ hk => hk.2.2)) | (rw [add_block]; exact Kd.own_blk (Kd.V_away HO_0.out (fun _ hk => hk.2.2))) | (show (Addr.add _ _).block ≠ _; rw [add_block]; exact Kd.own_blk (Kd.V_away HO_0.out (fun _ hk => hk.2.2))) | (dsimp only; exact Kd.own_blk (Kd.V_away HO_0.out (fun _ hk => hk.2.2)))) _).trans (((cell_far (p := ⟨gb282, _, none⟩) (by first | exact Kd.own_blk (Kd.V_away HO_0.out (fun _ hk => hk.2.2)) | (rw [add_block]; exact Kd.own_blk (Kd.V_away HO_0.out (fun _ hk => hk.2.2))) | (show (Addr.add _ _).block ≠ _; rw [add_block]; exact Kd.own_blk (Kd.V_away HO_0.out (fun _ hk => hk.2.2))) | (dsimp only; exact Kd.own_blk (Kd.V_away HO_0.out (fun _ hk => hk.2.2)))) _).trans (hHeld.2.2))))))))))))))))))))))⟩ (fun hHeld => ?_)
                       clear hK K
                       refine done_ (done_of HT_.out (by kernel_rfl)) ?_
                       have p283 : 0 ≤ (6 : Int) := (by omega)
                       have q283 : 6 < (l0.length : Int) := of_decide_eq_true (by first | (with_reducible assumption) | assumption)
                       obtain ⟨ad283, e283, hx283_0⟩ := Kd.at_int (Kd.V_reads' HO_0.out).2.2 6 p283 q283
                       obtain rfl : ad269 = ad283 := (by injection e283)
                       (try simp only [show (6 : Int).toNat = 6 from rfl, Nat.reduceMul, Nat.reduceEqDiff, Go.Addr.add, ↓reduceIte] at hx283_0)
                       have qi283 : (6 < l0.length) = True := eq_true (by omega)
                       (try rw [show ((6 : Int)).toNat = 6 from rfl] at hx283_0)
                       have hn283_0 : ad269.block ≠ gb282 := Kd.own_blk (Kd.V_away HO_0.out (fun _ hk => by first | exact hk.2 | exact hk.2.1 | exact hk.2.2 | exact hk.2.2.1 | exact hk.2.2.2 | exact hk.2.2.2.1 | exact hk.2.2.2.2 | exact hk.1.2))
                       have hn283_1 : ad269.block ≠ gb282 := Kd.own_blk (Kd.V_away HO_0.out (fun _ hk => by first | exact hk.2 | exact hk.2.1 | exact hk.2.2 | exact hk.2.2.1 | exact hk.2.2.2 | exact hk.2.2.2.1 | exact hk.2.2.2.2 | exact hk.1.2))
                       have hn283_2 : ad269.block ≠ gb282 := Kd.own_blk (Kd.V_away HO_0.out (fun _ hk => by first | exact hk.2 | exact hk.2.1 | exact hk.2.2 | exact hk.2.2.1 | exact hk.2.2.2 | exact hk.2.2.2.1 | exact hk.2.2.2.2 | exact hk.1.2))
                       have hn283_3 : ad269.block ≠ gb282 := Kd.own_blk (Kd.V_away HO_0.out (fun _ hk => by first | exact hk.2 | exact hk.2.1 | exact hk.2.2 | exact hk.2.2.1 | exact hk.2.2.2 | exact hk.2.2.2.1 | exact hk.2.2.2.2 | exact hk.1.2))
                       have hn283_4 : ad269.block ≠ gb282 := Kd.own_blk (Kd.V_away HO_0.out (fun _ hk => by first | exact hk.2 | exact hk.2.1 | exact hk.2.2 | exact hk.2.2.1 | exact hk.2.2.2 | exact hk.2.2.2.1 | exact hk.2.2.2.2 | exact hk.1.2))
                       have hn283_5 : ad269.block ≠ gb282 := Kd.own_blk (Kd.V_away HO_0.out (fun _ hk => by first | exact hk.2 | exact hk.2.1 | exact hk.2.2 | exact hk.2.2.1 | exact hk.2.2.2 | exact hk.2.2.2.1 | exact hk.2.2.2.2 | exact hk.1.2))
                       have hn283_6 : ad269.block ≠ gb282 := Kd.own_blk (Kd.V_away HO_0.out (fun _ hk => by first | exact hk.2 | exact hk.2.1 | exact hk.2.2 | exact hk.2.2.1 | exact hk.2.2.2 | exact hk.2.2.2.1 | exact hk.2.2.2.2 | exact hk.1.2))
                       have hn283_7 : ad269.block ≠ gb282 := Kd.own_blk (Kd.V_away HO_0.out (fun _ hk => by first | exact hk.2 | exact hk.2.1 | exact hk.2.2 | exact hk.2.2.1 | exact hk.2.2.2 | exact hk.2.2.2.1 | exact hk.2.2.2.2 | exact hk.1.2))
                       have hn283_8 : ad269.block ≠ gb282 := Kd.own_blk (Kd.V_away HO_0.out (fun _ hk => by first | exact hk.2 | exact hk.2.1 | exact hk.2.2 | exact hk.2.2.1 | exact hk.2.2.2 | exact hk.2.2.2.1 | exact hk.2.2.2.2 | exact hk.1.2))
                       have hn283_9 : ad269.block ≠ gb282 := Kd.own_blk (Kd.V_away HO_0.out (fun _ hk => by first | exact hk.2 | exact hk.2.1 | exact hk.2.2 | exact hk.2.2.1 | exact hk.2.2.2 | exact hk.2.2.2.1 | exact hk.2.2.2.2 | exact hk.1.2))
                       have hn283_10 : ad269.block ≠ gb282 := Kd.own_blk (Kd.V_away HO_0.out (fun _ hk => by first | exact hk.2 | exact hk.2.1 | exact hk.2.2 | exact hk.2.2.1 | exact hk.2.2.2 | exact hk.2.2.2.1 | exact hk.2.2.2.2 | exact hk.1.2))
                       replace hx283_0 := (cell_far (p := ⟨gb282, 0, none⟩) (by first | (rw [add_block]; exact hn283_0) | (show (Addr.add _ _).block ≠ _; rw [add_block]; exact hn283_0) | exact hn283_0) (.int .u8 (rd l0 1))).trans hx283_0
                       replace hx283_0 := (cell_far (p := ⟨gb282, 1, none⟩) (by first | (rw [add_block]; exact hn283_1) | (show (Addr.add _ _).block ≠ _; rw [add_block]; exact hn283_1) | exact hn283_1) (.int .u16 (IntKind.u16.wrap (t279)))).trans hx283_0
                       replace hx283_0 := (cell_far (p := ⟨gb282, 2, none⟩) (by first | (rw [add_block]; exact hn283_2) | (show (Addr.add _ _).block ≠ _; rw [add_block]; exact hn283_2) | exact hn283_2) (.bool false)).trans hx283_0
                       replace hx283_0 := (cell_far (p := ⟨gb282, 3, none⟩) (by first | (rw [add_block]; exact hn283_3) | (show (Addr.add _ _).block ≠ _; rw [add_block]; exact hn283_3) | exact hn283_3) (.bool false)).trans hx283_0
                       replace hx283_0 := (cell_far (p := ⟨gb282, 4, none⟩) (by first | (rw [add_block]; exact hn283_4) | (show (Addr.add _ _).block ≠ _; rw [add_block]; exact hn283_4) | exact hn283_4) (.int .i64 0)).trans hx283_0
                       replace hx283_0 := (cell_far (p := ⟨gb282, 5, none⟩) (by first | (rw [add_block]; exact hn283_5) | (show (Addr.add _ _).block ≠ _; rw [add_block]; exact hn283_5) | exact hn283_5) (.int .u8 (rd l0 8))).trans hx283_0
                       replace hx283_0 := (cell_far (p := ⟨gb282, 6, none⟩) (by first | (rw [add_block]; exact hn283_6) | (show (Addr.add _ _).block ≠ _; rw [add_block]; exact hn283_6) | exact hn283_6) (.int .u8 (rd l0 9))).trans hx283_0
                       replace hx283_0 := (cell_far (p := ⟨gb282, 7, none⟩) (by first | (rw [add_block]; exact hn283_7) | (show (Addr.add _ _).block ≠ _; rw [add_block]; exact hn283_7) | exact hn283_7) (.int .u32 0)).trans hx283_0
                       replace hx283_0 := (cell_far (p := ⟨gb282, 8, none⟩) (by first | (rw [add_block]; exact hn283_8) | (show (Addr.add _ _).block ≠ _; rw [add_block]; exact hn283_8) | exact hn283_8) (.int .u32 0)).trans hx283_0
                       replace hx283_0 := (cell_far (p := ⟨gb282, 9, none⟩) (by first | (rw [add_block]; exact hn283_9) | (show (Addr.add _ _).block ≠ _; rw [add_block]; exact hn283_9) | exact hn283_9) (.slice none 0 0)).trans hx283_0
                       replace hx283_0 := (cell_far (p := ⟨gb282, 10, none⟩) (by first | (rw [add_block]; exact hn283_10) | (show (Addr.add _ _).block ≠ _; rw [add_block]; exact hn283_10) | exact hn283_10) (.slice none 0 0)).trans hx283_0
                       clear hn283_0
                       clear hn283_1
                       clear hn283_2
                       clear hn283_3
                       clear hn283_4
                       clear hn283_5
                       clear hn283_6
                       clear hn283_7
                       clear hn283_8
                       clear hn283_9
                       clear hn283_10
                       replace p283 := eq_true p283
                       replace q283 := eq_true q283
                       have hnb62 := NB282_266.out
                       have hnc62 := NB266_282.out
                       have hcz63_0 : w50.cell? ⟨gb282, 0, none⟩ = some (.int .u8 0) := (blk_cell BK282.out 0).trans rfl
                       have hcz63_1 : w50.cell? ⟨gb282, 1, none⟩ = some (.int .u16 0) := (blk_cell BK282.out 1).trans rfl
                       have hcz63_2 : w50.cell? ⟨gb282, 2, none⟩ = some (.bool false) := (blk_cell BK282.out 2).trans rfl
                       have hcz63_3 : w50.cell? ⟨gb282, 3, none⟩ = some (.bool false) := (blk_cell BK282.out 3).trans rfl
                       have hcz63_4 : w50.cell? ⟨gb282, 4, none⟩ = some (.int .i64 0) := (blk_cell BK282.out 4).trans rfl
                       have hcz63_5 : w50.cell? ⟨gb282, 5, none⟩ = some (.int .u8 0) := (blk_cell BK282.out 5).trans rfl
                       have hcz63_6 : w50.cell? ⟨gb282, 6, none⟩ = some (.int .u8 0) := (blk_cell BK282.out 6).trans rfl
                       have hcz63_7 : w50.cell? ⟨gb282, 7, none⟩ = some (.int .u32 0) := (blk_cell BK282.out 7).trans rfl
                       have hcz63_8 : w50.cell? ⟨gb282, 8, none⟩ = some (.int .u32 0) := (blk_cell BK282.out 8).trans rfl
                       have hcz63_9 : w50.cell? ⟨gb282, 9, none⟩ = some (.slice none 0 0) := (blk_cell BK282.out 9).trans rfl
                       have hcz63_10 : w50.cell? ⟨gb282, 10, none⟩ = some (.slice none 0 0) := (blk_cell BK282.out 10).trans rfl
                       have hfz63_0 := blk_frozen BK282.out 0
                       have hfz63_1 := blk_frozen BK282.out 1
                       have hfz63_2 := blk_frozen BK282.out 2
                       have hfz63_3 := blk_frozen BK282.out 3
                       have hfz63_4 := blk_frozen BK282.out 4
                       have hfz63_5 := blk_frozen BK282.out 5
                       have hfz63_6 := blk_frozen BK282.out 6
                       have hfz63_7 := blk_frozen BK282.out 7
                       have hfz63_8 := blk_frozen BK282.out 8
                       have hfz63_9 := blk_frozen BK282.out 9
                       have hfz63_10 := blk_frozen BK282.out 10
                       try go_wp2_with (first | ((with_reducible refine gate_store (t := 4) (p := 75) rfl ?_); refine store_event (t := 4) (p := 75) (v := ?vo_w64) (w1 := ((((((((((((w50.setCell ⟨gb282, 0, none⟩ (.int .u8 (rd l0 1))).setCell ⟨gb282, 1, none⟩ (.int .u16 (IntKind.u16.wrap (t279)))).setCell ⟨gb282, 2, none⟩ (.bool false)).setCell ⟨gb282, 3, none⟩ (.bool false)).setCell ⟨gb282, 4, none⟩ (.int .i64 0)).setCell ⟨gb282, 5, none⟩ (.int .u8 (rd l0 8))).setCell ⟨gb282, 6, none⟩ (.int .u8 (rd l0 9))).setCell ⟨gb282, 7, none⟩ (.int .u32 0)).setCell ⟨gb282, 8, none⟩ (.int .u32 0)).setCell ⟨gb282, 9, none⟩ (.slice none 0 0)).setCell ⟨gb282, 10, none⟩ (.slice none 0 0)).setCell ⟨gb282, 2, none⟩ (.bool ((((Int.tdiv (rd l0 6) 64) % 256) % 2) == 1)))) ?hg ?ho ?hn ?hr ?_; (case ho => rfl); (case hg => rfl); (case hn => rfl); (case hr => first | (go_simp; done) | (go_simp; rfl)); intro w64 hw; have n0_ : Aside0 (Kd.V (Kd.int .u8) 5 w64 w.heap.size (fun k_ => (P0_ k_ ∨ w.heap.size ≤ k_) ∧ k_ ≠ gb266 ∧ k_ ≠ gb282) (.slice (some ad269) l0.length c0) l0) := ⟨(by rw [hw]; exact (by (with_reducible repeat (first | apply Kd.V_alloc | apply Kd.V_drewN | apply Kd.V_drew)); exact Kd.V_mono (Kd.V_far (p := ⟨gb282, 2, none⟩) (Kd.V_far (p := ⟨gb282, 10, none⟩) (Kd.V_far (p := ⟨gb282, 9, none⟩) (Kd.V_far (p := ⟨gb282, 8, none⟩) (Kd.V_far (p := ⟨gb282, 7, none⟩) (Kd.V_far (p := ⟨gb282, 6, none⟩) (Kd.V_far (p := ⟨gb282, 5, none⟩) (Kd.V_far (p := ⟨gb282, 4, none⟩) (Kd.V_far (p := ⟨gb282, 3, none⟩) (Kd.V_far (p := ⟨gb282, 2, none⟩) (Kd.V_far (p := ⟨gb282, 1, none⟩) (Kd.V_far (p := ⟨gb282, 0, none⟩) (Kd.V_mono HO_0.out (fun k_ hk => (⟨hk, hk.2.2⟩ : _ ∧ k_ ≠ gb282))) (fun _ hk => hk.2) (.int .u8 (rd l0 1))) (fun _ hk => hk.2) (.int .u16 (IntKind.u16.wrap (t279)))) (fun _ hk => hk.2) (.bool false)) (fun _ hk => hk.2) (.bool false)) (fun _ hk => hk.2) (.int .i64 0)) (fun _ hk => hk.2) (.int .u8 (rd l0 8))) (fun _ hk => hk.2) (.int .u8 (rd l0 9))) (fun _ hk => hk.2) (.int .u32 0)) (fun _ hk => hk.2) (.int .u32 0)) (fun _ hk => hk.2) (.slice none 0 0)) (fun _ hk => hk.2) (.slice none 0 0)) (fun _ hk => hk.2) (.bool ((((Int.tdiv (rd l0 6) 64) % 256) % 2) == 1))) (fun _ hk => ⟨hk.1.1, ⟨hk.1.2.1, hk.1.2.2⟩⟩)))⟩; have n1_ : Aside0 (w64.heap[gb266]? = some (.cells #[.int .u8 0, .int .u16 0, .bool false, .bool false, .int .i64 0, .int .u8 0, .int .u8 0, .int .u32 0, .int .u32 0, .slice none 0 0, .slice none 0 0] 37 (0, 0))) := ⟨(by rw [hw]; exact (by (with_reducible repeat (first | refine blk_drewN ?_ _ | refine blk_drew ?_ | refine blk_alloc ?_ _)); refine blk_far ?_ NB266_282.out _; (with_reducible repeat (first | refine blk_drewN ?_ _ | refine blk_drew ?_ | refine blk_alloc ?_ _)); refine blk_far ?_ NB266_282.out _; (with_reducible repeat (first | refine blk_drewN ?_ _ | refine blk_drew ?_ | refine blk_alloc ?_ _)); refine blk_far ?_ NB266_282.out _; (with_reducible repeat (first | refine blk_drewN ?_ _ | refine blk_drew ?_ | refine blk_alloc ?_ _)); refine blk_far ?_ NB266_282.out _; (with_reducible repeat (first | refine blk_drewN ?_ _ | refine blk_drew ?_ | refine blk_alloc ?_ _)); refine blk_far ?_ NB266_282.out _; (with_reducible repeat (first | refine blk_drewN ?_ _ | refine blk_drew ?_ | refine blk_alloc ?_ _)); refine blk_far ?_ NB266_282.out _; (with_reducible repeat (first | refine blk_drewN ?_ _ | refine blk_drew ?_ | refine blk_alloc ?_ _)); refine blk_far ?_ NB266_282.out _; (with_reducible repeat (first | refine blk_drewN ?_ _ | refine blk_drew ?_ | refine blk_alloc ?_ _)); refine blk_far ?_ NB266_282.out _; (with_reducible repeat (first | refine blk_drewN ?_ _ | refine blk_drew ?_ | refine blk_alloc ?_ _)); refine blk_far ?_ NB266_282.out _; (with_reducible repeat (first | refine blk_drewN ?_ _ | refine blk_drew ?_ | refine blk_alloc ?_ _)); refine blk_far ?_ NB266_282.out _; (with_reducible repeat (first | refine blk_drewN ?_ _ | refine blk_drew ?_ | refine blk_alloc ?_ _)); refine blk_far ?_ NB266_282.out _; (with_reducible repeat (first | refine blk_drewN ?_ _ | refine blk_drew ?_ | refine blk_alloc ?_ _)); refine blk_far ?_ NB266_282.out _; (with_reducible repeat (first | refine blk_drewN ?_ _ | refine blk_drew ?_ | refine blk_alloc ?_ _)); exact BK266.out))⟩; have n2_ : Aside0 (w64.heap[gb282]? = some (.cells #[.int .u8 (rd l0 1), .int .u16 (IntKind.u16.wrap (t279)), .bool ((((Int.tdiv (rd l0 6) 64) % 256) % 2) == 1), .bool false, .int .i64 0, .int .u8 (rd l0 8), .int .u8 (rd l0 9), .int .u32 0, .int .u32 0, .slice none 0 0, .slice none 0 0] 37 (0, 0))) := ⟨(by rw [hw]; exact (by (with_reducible repeat (first | refine blk_drewN ?_ _ | refine blk_drew ?_ | refine blk_alloc ?_ _)); refine blk_put (cs := #[.int .u8 (rd l0 1), .int .u16 (IntKind.u16.wrap (t279)), .bool false, .bool false, .int .i64 0, .int .u8 (rd l0 8), .int .u8 (rd l0 9), .int .u32 0, .int .u32 0, .slice none 0 0, .slice none 0 0]) ?_ 2 _ rfl; (with_reducible repeat (first | refine blk_drewN ?_ _ | refine blk_drew ?_ | refine blk_alloc ?_ _)); refine blk_put (cs := #[.int .u8 (rd l0 1), .int .u16 (IntKind.u16.wrap (t279)), .bool false, .bool false, .int .i64 0, .int .u8 (rd l0 8), .int .u8 (rd l0 9), .int .u32 0, .int .u32 0, .slice none 0 0, .slice none 0 0]) ?_ 10 _ rfl; (with_reducible repeat (first | refine blk_drewN ?_ _ | refine blk_drew ?_ | refine blk_alloc ?_ _)); refine blk_put (cs := #[.int .u8 (rd l0 1), .int .u16 (IntKind.u16.wrap (t279)), .bool false, .bool false, .int .i64 0, .int .u8 (rd l0 8), .int .u8 (rd l0 9), .int .u32 0, .int .u32 0, .slice none 0 0, .slice none 0 0]) ?_ 9 _ rfl; (with_reducible repeat (first | refine blk_drewN ?_ _ | refine blk_drew ?_ | refine blk_alloc ?_ _)); refine blk_put (cs := #[.int .u8 (rd l0 1), .int .u16 (IntKind.u16.wrap (t279)), .bool false, .bool false, .int .i64 0, .int .u8 (rd l0 8), .int .u8 (rd l0 9), .int .u32 0, .int .u32 0, .slice none 0 0, .slice none 0 0]) ?_ 8 _ rfl; (with_reducible repeat (first | refine blk_drewN ?_ _ | refine blk_drew ?_ | refine blk_alloc ?_ _)); refine blk_put (cs := #[.int .u8 (rd l0 1), .int .u16 (IntKind.u16.wrap (t279)), .bool false, .bool false, .int .i64 0, .int .u8 (rd l0 8), .int .u8 (rd l0 9), .int .u32 0, .int .u32 0, .slice none 0 0, .slice none 0 0]) ?_ 7 _ rfl; (with_reducible repeat (first | refine blk_drewN ?_ _ | refine blk_drew ?_ | refine blk_alloc ?_ _)); refine blk_put (cs := #[.int .u8 (rd l0 1), .int .u16 (IntKind.u16.wrap (t279)), .bool false, .bool false, .int .i64 0, .int .u8 (rd l0 8), .int .u8 0, .int .u32 0, .int .u32 0, .slice none 0 0, .slice none 0 0]) ?_ 6 _ rfl; (with_reducible repeat (first | refine blk_drewN ?_ _ | refine blk_drew ?_ | refine blk_alloc ?_ _)); refine blk_put (cs := #[.int .u8 (rd l0 1), .int .u16 (IntKind.u16.wrap (t279)), .bool false, .bool false, .int .i64 0, .int .u8 0, .int .u8 0, .int .u32 0, .int .u32 0, .slice none 0 0, .slice none 0 0]) ?_ 5 _ rfl; (with_reducible repeat (first | refine blk_drewN ?_ _ | refine blk_drew ?_ | refine blk_alloc ?_ _)); refine blk_put (cs := #[.int .u8 (rd l0 1), .int .u16 (IntKind.u16.wrap (t279)), .bool false, .bool false, .int .i64 0, .int .u8 0, .int .u8 0, .int .u32 0, .int .u32 0, .slice none 0 0, .slice none 0 0]) ?_ 4 _ rfl; (with_reducible repeat (first | refine blk_drewN ?_ _ | refine blk_drew ?_ | refine blk_alloc ?_ _)); refine blk_put (cs := #[.int .u8 (rd l0 1), .int .u16 (IntKind.u16.wrap (t279)), .bool false, .bool false, .int .i64 0, .int .u8 0, .int .u8 0, .int .u32 0, .int .u32 0, .slice none 0 0, .slice none 0 0]) ?_ 3 _ rfl; (with_reducible repeat (first | refine blk_drewN ?_ _ | refine blk_drew ?_ | refine blk_alloc ?_ _)); refine blk_put (cs := #[.int .u8 (rd l0 1), .int .u16 (IntKind.u16.wrap (t279)), .bool false, .bool false, .int .i64 0, .int .u8 0, .int .u8 0, .int .u32 0, .int .u32 0, .slice none 0 0, .slice none 0 0]) ?_ 2 _ rfl; (with_reducible repeat (first | refine blk_drewN ?_ _ | refine blk_drew ?_ | refine blk_alloc ?_ _)); refine blk_put (cs := #[.int .u8 (rd l0 1), .int .u16 0, .bool false, .bool false, .int .i64 0, .int .u8 0, .int .u8 0, .int .u32 0, .int .u32 0, .slice none 0 0, .slice none 0 0]) ?_ 1 _ rfl; (with_reducible repeat (first | refine blk_drewN ?_ _ | refine blk_drew ?_ | refine blk_alloc ?_ _)); refine blk_put (cs := #[.int .u8 0, .int .u16 0, .bool false, .bool false, .int .i64 0, .int .u8 0, .int .u8 0, .int .u32 0, .int .u32 0, .slice none 0 0, .slice none 0 0]) ?_ 0 _ rfl; (with_reducible repeat (first | refine blk_drewN ?_ _ | refine blk_drew ?_ | refine blk_alloc ?_ _)); exact BK282.out))⟩; have n3_ : Aside0 (Below w.heap.size w w64) := ⟨(by rw [hw]; exact (by repeat (first | (with_reducible first | exact HB.out | apply below_alloc | apply pw_below_drewN | apply below_drew1 | refine below_set ?_ GE266.out | refine below_set ?_ GE282.out) | exact HB.out)))⟩; clear hw; clear HO_0; clear BK266; clear BK282; clear HB; have HO_0 := n0_; have BK266 := n1_; have BK282 := n2_; have HB := n3_; clear n0_ n1_ n2_ n3_; have p284 : 0 ≤ (6 : Int) := (by omega); have q284 : 6 < (l0.length : Int) := of_decide_eq_true (by first | (with_reducible assumption) | assumption); obtain ⟨ad284, e284, hx284_0⟩ := Kd.at_int (Kd.V_reads' HO_0.out).2.2 6 p284 q284; obtain rfl : ad269 = ad284 := (by injection e284); (try simp only [show (6 : Int).toNat = 6 from rfl, Nat.reduceMul, Nat.reduceEqDiff, Go.Addr.add, ↓reduceIte] at hx284_0); have qi284 : (6 < l0.length) = True := eq_true (by omega); (try rw [show ((6 : Int)).toNat = 6 from rfl] at hx284_0); replace p284 := eq_true p284; replace q284 := eq_true q284; have hcz65_0 : w64.cell? ⟨gb282, 0, none⟩ = some (.int .u8 (rd l0 1)) := (blk_cell BK282.out 0).trans rfl; have hcz65_1 : w64.cell? ⟨gb282, 1, none⟩ = some (.int .u16 (IntKind.u16.wrap (t279))) := (blk_cell BK282.out 1).trans rfl; have hcz65_2 : w64.cell? ⟨gb282, 2, none⟩ = some (.bool ((((Int.tdiv (rd l0 6) 64) % 256) % 2) == 1)) := (blk_cell BK282.out 2).trans rfl; have hcz65_3 : w64.cell? ⟨gb282, 3, none⟩ = some (.bool false) := (blk_cell BK282.out 3).trans rfl; have hcz65_4 : w64.cell? ⟨gb282, 4, none⟩ = some (.int .i64 0) := (blk_cell BK282.out 4).trans rfl; have hcz65_5 : w64.cell? ⟨gb282, 5, none⟩ = some (.int .u8 (rd l0 8)) := (blk_cell BK282.out 5).trans rfl; have hcz65_6 : w64.cell? ⟨gb282, 6, none⟩ = some (.int .u8 (rd l0 9)) := (blk_cell BK282.out 6).trans rfl; have hcz65_7 : w64.cell? ⟨gb282, 7, none⟩ = some (.int .u32 0) := (blk_cell BK282.out 7).trans rfl; have hcz65_8 : w64.cell? ⟨gb282, 8, none⟩ = some (.int .u32 0) := (blk_cell BK282.out 8).trans rfl; have hcz65_9 : w64.cell? ⟨gb282, 9, none⟩ = some (.slice none 0 0) := (blk_cell BK282.out 9).trans rfl; have hcz65_10 : w64.cell? ⟨gb282, 10, none⟩ = some (.slice none 0 0) := (blk_cell BK282.out 10).trans rfl; have hfz65_0 := blk_frozen BK282.out 0; have hfz65_1 := blk_frozen BK282.out 1; have hfz65_2 := blk_frozen BK282.out 2; have hfz65_3 := blk_frozen BK282.out 3; have hfz65_4 := blk_frozen BK282.out 4; have hfz65_5 := blk_frozen BK282.out 5; have hfz65_6 := blk_frozen BK282.out 6; have hfz65_7 := blk_frozen BK282.out 7; have hfz65_8 := blk_frozen BK282.out 8; have hfz65_9 := blk_frozen BK282.out 9; have hfz65_10 := blk_frozen BK282.out 10) | ((with_reducible refine gate_store (t := 4) (p := 82) rfl ?_); refine store_event (t := 4) (p := 82) (v := ?vo_w66) (w1 := (w64.setCell ⟨gb282, 3, none⟩ (.bool ((((Int.tdiv (rd l0 6) 32) % 256) % 2) == 1)))) ?hg ?ho ?hn ?hr ?_; (case ho => rfl); (case hg => rfl); (case hn => rfl); (case hr => first | (go_simp; done) | (go_simp; rfl)); intro w66 hw; have n0_ : Aside0 (Kd.V (Kd.int .u8) 5 w66 w.heap.size (fun k_ => (P0_ k_ ∨ w.heap.size ≤ k_) ∧ k_ ≠ gb266 ∧ k_ ≠ gb282) (.slice (some ad269) l0.length c0) l0) := ⟨(by rw [hw]; exact (by (with_reducible repeat (first | apply Kd.V_alloc | apply Kd.V_drewN | apply Kd.V_drew)); exact Kd.V_mono (Kd.V_far (p := ⟨gb282, 3, none⟩) (Kd.V_mono HO_0.out (fun k_ hk => (⟨hk, hk.2.2⟩ : _ ∧ k_ ≠ gb282))) (fun _ hk => hk.2) (.bool ((((Int.tdiv (rd l0 6) 32) % 256) % 2) == 1))) (fun _ hk => ⟨hk.1.1, ⟨hk.1.2.1, hk.1.2.2⟩⟩)))⟩; have n1_ : Aside0 (w66.heap[gb266]? = some (.cells #[.int .u8 0, .int .u16 0, .bool false, .bool false, .int .i64 0, .int .u8 0, .int .u8 0, .int .u32 0, .int .u32 0, .slice none 0 0, .slice none 0 0] 37 (0, 0))) := ⟨(by rw [hw]; exact (by (with_reducible repeat (first | refine blk_drewN ?_ _ | refine blk_drew ?_ | refine blk_alloc ?_ _)); refine blk_far ?_ NB266_282.out _; (with_reducible repeat (first | refine blk_drewN ?_ _ | refine blk_drew ?_ | refine blk_alloc ?_ _)); exact BK266.out))⟩; have n2_ : Aside0 (w66.heap[gb282]? = some (.cells #[.int .u8 (rd l0 1), .int .u16 (IntKind.u16.wrap (t279)), .bool ((((Int.tdiv (rd l0 6) 64) % 256) % 2) == 1), .bool ((((Int.tdiv (rd l0 6) 32) % 256) % 2) == 1), .int .i64 0, .int .u8 (rd l0 8), .int .u8 (rd l0 9), .int .u32 0, .int .u32 0, .slice none 0 0, .slice none 0 0] 37 (0, 0))) := ⟨(by rw [hw]; exact (by (with_reducible repeat (first | refine blk_drewN ?_ _ | refine blk_drew ?_ | refine blk_alloc ?_ _)); refine blk_put (cs := #[.int .u8 (rd l0 1), .int .u16 (IntKind.u16.wrap (t279)), .bool ((((Int.tdiv (rd l0 6) 64) % 256) % 2) == 1), .bool false, .int .i64 0, .int .u8 (rd l0 8), .int .u8 (rd l0 9), .int .u32 0, .int .u32 0, .slice none 0 0, .slice none 0 0]) ?_ 3 _ rfl; (with_reducible repeat (first | refine blk_drewN ?_ _ | refine blk_drew ?_ | refine blk_alloc ?_ _)); exact BK282.out))⟩; have n3_ : Aside0 (Below w.heap.size w w66) := ⟨(by rw [hw]; exact (by repeat (first | (with_reducible first | exact HB.out | apply below_alloc | apply pw_below_drewN | apply below_drew1 | refine below_set ?_ GE266.out | refine below_set ?_ GE282.out) | exact HB.out)))⟩; clear hw; clear HO_0; clear BK266; clear BK282; clear HB; have HO_0 := n0_; have BK266 := n1_; have BK282 := n2_; have HB := n3_; clear n0_ n1_ n2_ n3_) | ((with_reducible refine gate_callee (f := 58) rfl ?_); refine goesL_ (some 84) rfl rfl Try.func58 (by kernel_rfl) rfl #[.slice (some ad269) l0.length c0, .int .i64 6] rfl (by (try simp only [List.map_toArray, List.map_cons, List.map_nil]); first | done | rfl | (simp only [List.length_drop, List.length_take]; rfl) | (go_simp; done) | (go_simp; omega)) ?_; (with_reducible refine (towroperef06_number.calls _ _ l0 6 t285 _ ?side1 ?side2 A38.out).mono ?_); (case side1 => repeat (first | exact (Kd.V_reads' HO_0.out).2.2 | (with_reducible refine Kd.C_alloc ?_ _) | (with_reducible refine Kd.C_drewN ?_ _) | (with_reducible refine Kd.C_drew ?_))); (case side2 => exact (Kd.V_reads' HO_0.out).2.1); rintro e w' ⟨rfl, ⟨nd, rfl⟩⟩; refine ⟨_, rfl, ?_⟩; (try (rw [drewN_self w66]; generalize hq_ : World.drewN w66 _ = w66; have n0_ : Aside0 (Kd.V (Kd.int .u8) 5 w66 w.heap.size (fun k_ => (P0_ k_ ∨ w.heap.size ≤ k_) ∧ k_ ≠ gb266 ∧ k_ ≠ gb282) (.slice (some ad269) l0.length c0) l0) := ⟨by rw [← hq_]; exact (by (with_reducible repeat (first | apply Kd.V_alloc | apply Kd.V_drewN | apply Kd.V_drew)); exact HO_0.out)⟩; have n1_ : Aside0 (w66.heap[gb266]? = some (.cells #[.int .u8 0, .int .u16 0, .bool false, .bool false, .int .i64 0, .int .u8 0, .int .u8 0, .int .u32 0, .int .u32 0, .slice none 0 0, .slice none 0 0] 37 (0, 0))) := ⟨by rw [← hq_]; exact (by (with_reducible repeat (first | refine blk_drewN ?_ _ | refine blk_drew ?_ | refine blk_alloc ?_ _)); exact BK266.out)⟩; have n2_ : Aside0 (w66.heap[gb282]? = some (.cells #[.int .u8 (rd l0 1), .int .u16 (IntKind.u16.wrap (t279)), .bool ((((Int.tdiv (rd l0 6) 64) % 256) % 2) == 1), .bool ((((Int.tdiv (rd l0 6) 32) % 256) % 2) == 1), .int .i64 0, .int .u8 (rd l0 8), .int .u8 (rd l0 9), .int .u32 0, .int .u32 0, .slice none 0 0, .slice none 0 0] 37 (0, 0))) := ⟨by rw [← hq_]; exact (by (with_reducible repeat (first | refine blk_drewN ?_ _ | refine blk_drew ?_ | refine blk_alloc ?_ _)); exact BK282.out)⟩; have n3_ : Aside0 (Below w.heap.size w w66) := ⟨by rw [← hq_]; exact (by repeat (first | (with_reducible first | exact HB.out | apply below_alloc | apply pw_below_drewN | apply below_drew1 | refine below_set ?_ GE266.out | refine below_set ?_ GE282.out) | exact HB.out))⟩; clear HO_0 BK266 BK282 HB hq_; have HO_0 := n0_; have BK266 := n1_; have BK282 := n2_; have HB := n3_; clear n0_ n1_ n2_ n3_)); have hcz67_0 : w66.cell? ⟨gb282, 0, none⟩ = some (.int .u8 (rd l0 1)) := (blk_cell BK282.out 0).trans rfl; have hcz67_1 : w66.cell? ⟨gb282, 1, none⟩ = some (.int .u16 (IntKind.u16.wrap (t279))) := (blk_cell BK282.out 1).trans rfl; have hcz67_2 : w66.cell? ⟨gb282, 2, none⟩ = some (.bool ((((Int.tdiv (rd l0 6) 64) % 256) % 2) == 1)) := (blk_cell BK282.out 2).trans rfl; have hcz67_3 : w66.cell? ⟨gb282, 3, none⟩ = some (.bool ((((Int.tdiv (rd l0 6) 32) % 256) % 2) == 1)) := (blk_cell BK282.out 3).trans rfl; have hcz67_4 : w66.cell? ⟨gb282, 4, none⟩ = some (.int .i64 0) := (blk_cell BK282.out 4).trans rfl; have hcz67_5 : w66.cell? ⟨gb282, 5, none⟩ = some (.int .u8 (rd l0 8)) := (blk_cell BK282.out 5).trans rfl; have hcz67_6 : w66.cell? ⟨gb282, 6, none⟩ = some (.int .u8 (rd l0 9)) := (blk_cell BK282.out 6).trans rfl; have hcz67_7 : w66.cell? ⟨gb282, 7, none⟩ = some (.int .u32 0) := (blk_cell BK282.out 7).trans rfl; have hcz67_8 : w66.cell? ⟨gb282, 8, none⟩ = some (.int .u32 0) := (blk_cell BK282.out 8).trans rfl; have hcz67_9 : w66.cell? ⟨gb282, 9, none⟩ = some (.slice none 0 0) := (blk_cell BK282.out 9).trans rfl; have hcz67_10 : w66.cell? ⟨gb282, 10, none⟩ = some (.slice none 0 0) := (blk_cell BK282.out 10).trans rfl; have hfz67_0 := blk_frozen BK282.out 0; have hfz67_1 := blk_frozen BK282.out 1; have hfz67_2 := blk_frozen BK282.out 2; have hfz67_3 := blk_frozen BK282.out 3; have hfz67_4 := blk_frozen BK282.out 4; have hfz67_5 := blk_frozen BK282.out 5; have hfz67_6 := blk_frozen BK282.out 6; have hfz67_7 := blk_frozen BK282.out 7; have hfz67_8 := blk_frozen BK282.out 8; have hfz67_9 := blk_frozen BK282.out 9; have hfz67_10 := blk_frozen BK282.out 10) | ((with_reducible refine gate_store (t := 3) (p := 86) rfl ?_); refine store_event (t := 3) (p := 86) (v := ?vo_w68) (w1 := (w66.setCell ⟨gb282, 4, none⟩ (.int .i64 (Int.tmod t285 8192)))) ?hg ?ho ?hn ?hr ?_; (case ho => rfl); (case hg => rfl); (case hn => rfl); (case hr => first | (go_simp; done) | (go_simp; rfl)); intro w68 hw; have n0_ : Aside0 (Kd.V (Kd.int .u8) 5 w68 w.heap.size (fun k_ => (P0_ k_ ∨ w.heap.size ≤ k_) ∧ k_ ≠ gb266 ∧ k_ ≠ gb282) (.slice (some ad269) l0.length c0) l0) := ⟨(by rw [hw]; exact (by (with_reducible repeat (first | apply Kd.V_alloc | apply Kd.V_drewN | apply Kd.V_drew)); exact Kd.V_mono (Kd.V_far (p := ⟨gb282, 4, none⟩) (Kd.V_mono HO_0.out (fun k_ hk => (⟨hk, hk.2.2⟩ : _ ∧ k_ ≠ gb282))) (fun _ hk => hk.2) (.int .i64 (Int.tmod t285 8192))) (fun _ hk => ⟨hk.1.1, ⟨hk.1.2.1, hk.1.2.2⟩⟩)))⟩; have n1_ : Aside0 (w68.heap[gb266]? = some (.cells #[.int .u8 0, .int .u16 0, .bool false, .bool false, .int .i64 0, .int .u8 0, .int .u8 0, .int .u32 0, .int .u32 0, .slice none 0 0, .slice none 0 0] 37 (0, 0))) := ⟨(by rw [hw]; exact (by (with_reducible repeat (first | refine blk_drewN ?_ _ | refine blk_drew ?_ | refine blk_alloc ?_ _)); refine blk_far ?_ NB266_282.out _; (with_reducible repeat (first | refine blk_drewN ?_ _ | refine blk_drew ?_ | refine blk_alloc ?_ _)); exact BK266.out))⟩; have n2_ : Aside0 (w68.heap[gb282]? = some (.cells #[.int .u8 (rd l0 1), .int .u16 (IntKind.u16.wrap (t279)), .bool ((((Int.tdiv (rd l0 6) 64) % 256) % 2) == 1), .bool ((((Int.tdiv (rd l0 6) 32) % 256) % 2) == 1), .int .i64 (Int.tmod t285 8192), .int .u8 (rd l0 8), .int .u8 (rd l0 9), .int .u32 0, .int .u32 0, .slice none 0 0, .slice none 0 0] 37 (0, 0))) := ⟨(by rw [hw]; exact (by (with_reducible repeat (first | refine blk_drewN ?_ _ | refine blk_drew ?_ | refine blk_alloc ?_ _)); refine blk_put (cs := #[.int .u8 (rd l0 1), .int .u16 (IntKind.u16.wrap (t279)), .bool ((((Int.tdiv (rd l0 6) 64) % 256) % 2) == 1), .bool ((((Int.tdiv (rd l0 6) 32) % 256) % 2) == 1), .int .i64 0, .int .u8 (rd l0 8), .int .u8 (rd l0 9), .int .u32 0, .int .u32 0, .slice none 0 0, .slice none 0 0]) ?_ 4 _ rfl; (with_reducible repeat (first | refine blk_drewN ?_ _ | refine blk_drew ?_ | refine blk_alloc ?_ _)); exact BK282.out))⟩; have n3_ : Aside0 (Below w.heap.size w w68) := ⟨(by rw [hw]; exact (by repeat (first | (with_reducible first | exact HB.out | apply below_alloc | apply pw_below_drewN | apply below_drew1 | refine below_set ?_ GE266.out | refine below_set ?_ GE282.out) | exact HB.out)))⟩; clear hw; clear HO_0; clear BK266; clear BK282; clear HB; have HO_0 := n0_; have BK266 := n1_; have BK282 := n2_; have HB := n3_; clear n0_ n1_ n2_ n3_) | ((with_reducible refine gate_callee (f := 58) rfl ?_); refine goesL_ (some 88) rfl rfl Try.func58 (by kernel_rfl) rfl #[.slice (some ad269) l0.length c0, .int .i64 12] rfl (by (try simp only [List.map_toArray, List.map_cons, List.map_nil]); first | done | rfl | (simp only [List.length_drop, List.length_take]; rfl) | (go_simp; done) | (go_simp; omega)) ?_; (with_reducible refine (towroperef06_number.calls _ _ l0 12 t286 _ ?side1 ?side2 A39.out).mono ?_); (case side1 => repeat (first | exact (Kd.V_reads' HO_0.out).2.2 | (with_reducible refine Kd.C_alloc ?_ _) | (with_reducible refine Kd.C_drewN ?_ _) | (with_reducible refine Kd.C_drew ?_))); (case side2 => exact (Kd.V_reads' HO_0.out).2.1); rintro e w' ⟨rfl, ⟨nd, rfl⟩⟩; refine ⟨_, rfl, ?_⟩; (try (rw [drewN_self w68]; generalize hq_ : World.drewN w68 _ = w68; have n0_ : Aside0 (Kd.V (Kd.int .u8) 5 w68 w.heap.size (fun k_ => (P0_ k_ ∨ w.heap.size ≤ k_) ∧ k_ ≠ gb266 ∧ k_ ≠ gb282) (.slice (some ad269) l0.length c0) l0) := ⟨by rw [← hq_]; exact (by (with_reducible repeat (first | apply Kd.V_alloc | apply Kd.V_drewN | apply Kd.V_drew)); exact HO_0.out)⟩; have n1_ : Aside0 (w68.heap[gb266]? = some (.cells #[.int .u8 0, .int .u16 0, .bool false, .bool false, .int .i64 0, .int .u8 0, .int .u8 0, .int .u32 0, .int .u32 0, .slice none 0 0, .slice none 0 0] 37 (0, 0))) := ⟨by rw [← hq_]; exact (by (with_reducible repeat (first | refine blk_drewN ?_ _ | refine blk_drew ?_ | refine blk_alloc ?_ _)); exact BK266.out)⟩; have n2_ : Aside0 (w68.heap[gb282]? = some (.cells #[.int .u8 (rd l0 1), .int .u16 (IntKind.u16.wrap (t279)), .bool ((((Int.tdiv (rd l0 6) 64) % 256) % 2) == 1), .bool ((((Int.tdiv (rd l0 6) 32) % 256) % 2) == 1), .int .i64 (Int.tmod t285 8192), .int .u8 (rd l0 8), .int .u8 (rd l0 9), .int .u32 0, .int .u32 0, .slice none 0 0, .slice none 0 0] 37 (0, 0))) := ⟨by rw [← hq_]; exact (by (with_reducible repeat (first | refine blk_drewN ?_ _ | refine blk_drew ?_ | refine blk_alloc ?_ _)); exact BK282.out)⟩; have n3_ : Aside0 (Below w.heap.size w w68) := ⟨by rw [← hq_]; exact (by repeat (first | (with_reducible first | exact HB.out | apply below_alloc | apply pw_below_drewN | apply below_drew1 | refine below_set ?_ GE266.out | refine below_set ?_ GE282.out) | exact HB.out))⟩; clear HO_0 BK266 BK282 HB hq_; have HO_0 := n0_; have BK266 := n1_; have BK282 := n2_; have HB := n3_; clear n0_ n1_ n2_ n3_))) | ((with_reducible refine gate_callee (f := 58) rfl ?_); refine goesL_ (some 91) rfl rfl Try.func58 (by kernel_rfl) rfl #[.slice (some ad269) l0.length c0, .int .i64 14] rfl (by (try simp only [List.map_toArray, List.map_cons, List.map_nil]); first | done | rfl | (simp only [List.length_drop, List.length_take]; rfl) | (go_simp; done) | (go_simp; omega)) ?_; (with_reducible refine (towroperef06_number.calls _ _ l0 14 t287 _ ?side1 ?side2 A40.out).mono ?_); (case side1 => repeat (first | exact (Kd.V_reads' HO_0.out).2.2 | (with_reducible refine Kd.C_alloc ?_ _) | (with_reducible refine Kd.C_drewN ?_ _) | (with_reducible refine Kd.C_drew ?_))); (case side2 => exact (Kd.V_reads' HO_0.out).2.1); rintro e w' ⟨rfl, ⟨nd, rfl⟩⟩; refine ⟨_, rfl, ?_⟩; (try (rw [drewN_self w68]; generalize hq_ : World.drewN w68 _ = w68; have n0_ : Aside0 (Kd.V (Kd.int .u8) 5 w68 w.heap.size (fun k_ => (P0_ k_ ∨ w.heap.size ≤ k_) ∧ k_ ≠ gb266 ∧ k_ ≠ gb282) (.slice (some ad269) l0.length c0) l0) := ⟨by rw [← hq_]; exact (by (with_reducible repeat (first | apply Kd.V_alloc | apply Kd.V_drewN | apply Kd.V_drew)); exact HO_0.out)⟩; have n1_ : Aside0 (w68.heap[gb266]? = some (.cells #[.int .u8 0, .int .u16 0, .bool false, .bool false, .int .i64 0, .int .u8 0, .int .u8 0, .int .u32 0, .int .u32 0, .slice none 0 0, .slice none 0 0] 37 (0, 0))) := ⟨by rw [← hq_]; exact (by (with_reducible repeat (first | refine blk_drewN ?_ _ | refine blk_drew ?_ | refine blk_alloc ?_ _)); exact BK266.out)⟩; have n2_ : Aside0 (w68.heap[gb282]? = some (.cells #[.int .u8 (rd l0 1), .int .u16 (IntKind.u16.wrap (t279)), .bool ((((Int.tdiv (rd l0 6) 64) % 256) % 2) == 1), .bool ((((Int.tdiv (rd l0 6) 32) % 256) % 2) == 1), .int .i64 (Int.tmod t285 8192), .int .u8 (rd l0 8), .int .u8 (rd l0 9), .int .u32 0, .int .u32 0, .slice none 0 0, .slice none 0 0] 37 (0, 0))) := ⟨by rw [← hq_]; exact (by (with_reducible repeat (first | refine blk_drewN ?_ _ | refine blk_drew ?_ | refine blk_alloc ?_ _)); exact BK282.out)⟩; have n3_ : Aside0 (Below w.heap.size w w68) := ⟨by rw [← hq_]; exact (by repeat (first | (with_reducible first | exact HB.out | apply below_alloc | apply pw_below_drewN | apply below_drew1 | refine below_set ?_ GE266.out | refine below_set ?_ GE282.out) | exact HB.out))⟩; clear HO_0 BK266 BK282 HB hq_; have HO_0 := n0_; have BK266 := n1_; have BK282 := n2_; have HB := n3_; clear n0_ n1_ n2_ n3_)); have hcz69_0 : w68.cell? ⟨gb282, 0, none⟩ = some (.int .u8 (rd l0 1)) := (blk_cell BK282.out 0).trans rfl; have hcz69_1 : w68.cell? ⟨gb282, 1, none⟩ = some (.int .u16 (IntKind.u16.wrap (t279))) := (blk_cell BK282.out 1).trans rfl; have hcz69_2 : w68.cell? ⟨gb282, 2, none⟩ = some (.bool ((((Int.tdiv (rd l0 6) 64) % 256) % 2) == 1)) := (blk_cell BK282.out 2).trans rfl; have hcz69_3 : w68.cell? ⟨gb282, 3, none⟩ = some (.bool ((((Int.tdiv (rd l0 6) 32) % 256) % 2) == 1)) := (blk_cell BK282.out 3).trans rfl; have hcz69_4 : w68.cell? ⟨gb282, 4, none⟩ = some (.int .i64 (Int.tmod t285 8192)) := (blk_cell BK282.out 4).trans rfl; have hcz69_5 : w68.cell? ⟨gb282, 5, none⟩ = some (.int .u8 (rd l0 8)) := (blk_cell BK282.out 5).trans rfl; have hcz69_6 : w68.cell? ⟨gb282, 6, none⟩ = some (.int .u8 (rd l0 9)) := (blk_cell BK282.out 6).trans rfl; have hcz69_7 : w68.cell? ⟨gb282, 7, none⟩ = some (.int .u32 0) := (blk_cell BK282.out 7).trans rfl; have hcz69_8 : w68.cell? ⟨gb282, 8, none⟩ = some (.int .u32 0) := (blk_cell BK282.out 8).trans rfl; have hcz69_9 : w68.cell? ⟨gb282, 9, none⟩ = some (.slice none 0 0) := (blk_cell BK282.out 9).trans rfl; have hcz69_10 : w68.cell? ⟨gb282, 10, none⟩ = some (.slice none 0 0) := (blk_cell BK282.out 10).trans rfl; have hfz69_0 := blk_frozen BK282.out 0; have hfz69_1 := blk_frozen BK282.out 1; have hfz69_2 := blk_frozen BK282.out 2; have hfz69_3 := blk_frozen BK282.out 3; have hfz69_4 := blk_frozen BK282.out 4; have hfz69_5 := blk_frozen BK282.out 5; have hfz69_6 := blk_frozen BK282.out 6; have hfz69_7 := blk_frozen BK282.out 7; have hfz69_8 := blk_frozen BK282.out 8; have hfz69_9 := blk_frozen BK282.out 9; have hfz69_10 := blk_frozen BK282.out 10) | ((with_reducible refine gate_store (t := 35) (p := 94) rfl ?_); refine store_event (t := 35) (p := 94) (v := ?vo_w70) (w1 := (w68.setCell ⟨gb282, 7, none⟩ (.int .u32 ((wrap64 ((wrap64 (65536 * t286)) + t287)) % 4294967296)))) ?hg ?ho ?hn ?hr ?_; (case ho => rfl); (case hg => rfl); (case hn => rfl); (case hr => first | (go_simp; done) | (go_simp; rfl)); intro w70 hw; have n0_ : Aside0 (Kd.V (Kd.int .u8) 5 w70 w.heap.size (fun k_ => (P0_ k_ ∨ w.heap.size ≤ k_) ∧ k_ ≠ gb266 ∧ k_ ≠ gb282) (.slice (some ad269) l0.length c0) l0) := ⟨(by rw [hw]; exact (by (with_reducible repeat (first | apply Kd.V_alloc | apply Kd.V_drewN | apply Kd.V_drew)); exact Kd.V_mono (Kd.V_far (p := ⟨gb282, 7, none⟩) (Kd.V_mono HO_0.out (fun k_ hk => (⟨hk, hk.2.2⟩ : _ ∧ k_ ≠ gb282))) (fun _ hk => hk.2) (.int .u32 ((wrap64 ((wrap64 (65536 * t286)) + t287)) % 4294967296))) (fun _ hk => ⟨hk.1.1, ⟨hk.1.2.1, hk.1.2.2⟩⟩)))⟩; have n1_ : Aside0 (w70.heap[gb266]? = some (.cells #[.int .u8 0, .int .u16 0, .bool false, .bool false, .int .i64 0, .int .u8 0, .int .u8 0, .int .u32 0, .int .u32 0, .slice none 0 0, .slice none 0 0] 37 (0, 0))) := ⟨(by rw [hw]; exact (by (with_reducible repeat (first | refine blk_drewN ?_ _ | refine blk_drew ?_ | refine blk_alloc ?_ _)); refine blk_far ?_ NB266_282.out _; (with_reducible repeat (first | refine blk_drewN ?_ _ | refine blk_drew ?_ | refine blk_alloc ?_ _)); exact BK266.out))⟩; have n2_ : Aside0 (w70.heap[gb282]? = some (.cells #[.int .u8 (rd l0 1), .int .u16 (IntKind.u16.wrap (t279)), .bool ((((Int.tdiv (rd l0 6) 64) % 256) % 2) == 1), .bool ((((Int.tdiv (rd l0 6) 32) % 256) % 2) == 1), .int .i64 (Int.tmod t285 8192), .int .u8 (rd l0 8), .int .u8 (rd l0 9), .int .u32 ((wrap64 ((wrap64 (65536 * t286)) + t287)) % 4294967296), .int .u32 0, .slice none 0 0, .slice none 0 0] 37 (0, 0))) := ⟨(by rw [hw]; exact (by (with_reducible repeat (first | refine blk_drewN ?_ _ | refine blk_drew ?_ | refine blk_alloc ?_ _)); refine blk_put (cs := #[.int .u8 (rd l0 1), .int .u16 (IntKind.u16.wrap (t279)), .bool ((((Int.tdiv (rd l0 6) 64) % 256) % 2) == 1), .bool ((((Int.tdiv (rd l0 6) 32) % 256) % 2) == 1), .int .i64 (Int.tmod t285 8192), .int .u8 (rd l0 8), .int .u8 (rd l0 9), .int .u32 0, .int .u32 0, .slice none 0 0, .slice none 0 0]) ?_ 7 _ rfl; (with_reducible repeat (first | refine blk_drewN ?_ _ | refine blk_drew ?_ | refine blk_alloc ?_ _)); exact BK282.out))⟩; have n3_ : Aside0 (Below w.heap.size w w70) := ⟨(by rw [hw]; exact (by repeat (first | (with_reducible first | exact HB.out | apply below_alloc | apply pw_below_drewN | apply below_drew1 | refine below_set ?_ GE266.out | refine below_set ?_ GE282.out) | exact HB.out)))⟩; clear hw; clear HO_0; clear BK266; clear BK282; clear HB; have HO_0 := n0_; have BK266 := n1_; have BK282 := n2_; have HB := n3_; clear n0_ n1_ n2_ n3_) | ((with_reducible refine gate_callee (f := 58) rfl ?_); refine goesL_ (some 96) rfl rfl Try.func58 (by kernel_rfl) rfl #[.slice (some ad269) l0.length c0, .int .i64 16] rfl (by (try simp only [List.map_toArray, List.map_cons, List.map_nil]); first | done | rfl | (simp only [List.length_drop, List.length_take]; rfl) | (go_simp; done) | (go_simp; omega)) ?_; (with_reducible refine (towroperef06_number.calls _ _ l0 16 t288 _ ?side1 ?side2 A41.out).mono ?_); (case side1 => repeat (first | exact (Kd.V_reads' HO_0.out).2.2 | (with_reducible refine Kd.C_alloc ?_ _) | (with_reducible refine Kd.C_drewN ?_ _) | (with_reducible refine Kd.C_drew ?_))); (case side2 => exact (Kd.V_reads' HO_0.out).2.1); rintro e w' ⟨rfl, ⟨nd, rfl⟩⟩; refine ⟨_, rfl, ?_⟩; (try (rw [drewN_self w70]; generalize hq_ : World.drewN w70 _ = w70; have n0_ : Aside0 (Kd.V (Kd.int .u8) 5 w70 w.heap.size (fun k_ => (P0_ k_ ∨ w.heap.size ≤ k_) ∧ k_ ≠ gb266 ∧ k_ ≠ gb282) (.slice (some ad269) l0.length c0) l0) := ⟨by rw [← hq_]; exact (by (with_reducible repeat (first | apply Kd.V_alloc | apply Kd.V_drewN | apply Kd.V_drew)); exact HO_0.out)⟩; have n1_ : Aside0 (w70.heap[gb266]? = some (.cells #[.int .u8 0, .int .u16 0, .bool false, .bool false, .int .i64 0, .int .u8 0, .int .u8 0, .int .u32 0, .int .u32 0, .slice none 0 0, .slice none 0 0] 37 (0, 0))) := ⟨by rw [← hq_]; exact (by (with_reducible repeat (first | refine blk_drewN ?_ _ | refine blk_drew ?_ | refine blk_alloc ?_ _)); exact BK266.out)⟩; have n2_ : Aside0 (w70.heap[gb282]? = some (.cells #[.int .u8 (rd l0 1), .int .u16 (IntKind.u16.wrap (t279)), .bool ((((Int.tdiv (rd l0 6) 64) % 256) % 2) == 1), .bool ((((Int.tdiv (rd l0 6) 32) % 256) % 2) == 1), .int .i64 (Int.tmod t285 8192), .int .u8 (rd l0 8), .int .u8 (rd l0 9), .int .u32 ((wrap64 ((wrap64 (65536 * t286)) + t287)) % 4294967296), .int .u32 0, .slice none 0 0, .slice none 0 0] 37 (0, 0))) := ⟨by rw [← hq_]; exact (by (with_reducible repeat (first | refine blk_drewN ?_ _ | refine blk_drew ?_ | refine blk_alloc ?_ _)); exact BK282.out)⟩; have n3_ : Aside0 (Below w.heap.size w w70) := ⟨by rw [← hq_]; exact (by repeat (first | (with_reducible first | exact HB.out | apply below_alloc | apply pw_below_drewN | apply below_drew1 | refine below_set ?_ GE266.out | refine below_set ?_ GE282.out) | exact HB.out))⟩; clear HO_0 BK266 BK282 HB hq_; have HO_0 := n0_; have BK266 := n1_; have BK282 := n2_; have HB := n3_; clear n0_ n1_ n2_ n3_))) | ((with_reducible refine gate_callee (f := 58) rfl ?_); refine goesL_ (some 99) rfl rfl Try.func58 (by kernel_rfl) rfl #[.slice (some ad269) l0.length c0, .int .i64 18] rfl (by (try simp only [List.map_toArray, List.map_cons, List.map_nil]); first | done | rfl | (simp only [List.length_drop, List.length_take]; rfl) | (go_simp; done) | (go_simp; omega)) ?_; (with_reducible refine (towroperef06_number.calls _ _ l0 18 t289 _ ?side1 ?side2 A42.out).mono ?_); (case side1 => repeat (first | exact (Kd.V_reads' HO_0.out).2.2 | (with_reducible refine Kd.C_alloc ?_ _) | (with_reducible refine Kd.C_drewN ?_ _) | (with_reducible refine Kd.C_drew ?_))); (case side2 => exact (Kd.V_reads' HO_0.out).2.1); rintro e w' ⟨rfl, ⟨nd, rfl⟩⟩; refine ⟨_, rfl, ?_⟩; (try (rw [drewN_self w70]; generalize hq_ : World.drewN w70 _ = w70; have n0_ : Aside0 (Kd.V (Kd.int .u8) 5 w70 w.heap.size (fun k_ => (P0_ k_ ∨ w.heap.size ≤ k_) ∧ k_ ≠ gb266 ∧ k_ ≠ gb282) (.slice (some ad269) l0.length c0) l0) := ⟨by rw [← hq_]; exact (by (with_reducible repeat (first | apply Kd.V_alloc | apply Kd.V_drewN | apply Kd.V_drew)); exact HO_0.out)⟩; have n1_ : Aside0 (w70.heap[gb266]? = some (.cells #[.int .u8 0, .int .u16 0, .bool false, .bool false, .int .i64 0, .int .u8 0, .int .u8 0, .int .u32 0, .int .u32 0, .slice none 0 0, .slice none 0 0] 37 (0, 0))) := ⟨by rw [← hq_]; exact (by (with_reducible repeat (first | refine blk_drewN ?_ _ | refine blk_drew ?_ | refine blk_alloc ?_ _)); exact BK266.out)⟩; have n2_ : Aside0 (w70.heap[gb282]? = some (.cells #[.int .u8 (rd l0 1), .int .u16 (IntKind.u16.wrap (t279)), .bool ((((Int.tdiv (rd l0 6) 64) % 256) % 2) == 1), .bool ((((Int.tdiv (rd l0 6) 32) % 256) % 2) == 1), .int .i64 (Int.tmod t285 8192), .int .u8 (rd l0 8), .int .u8 (rd l0 9), .int .u32 ((wrap64 ((wrap64 (65536 * t286)) + t287)) % 4294967296), .int .u32 0, .slice none 0 0, .slice none 0 0] 37 (0, 0))) := ⟨by rw [← hq_]; exact (by (with_reducible repeat (first | refine blk_drewN ?_ _ | refine blk_drew ?_ | refine blk_alloc ?_ _)); exact BK282.out)⟩; have n3_ : Aside0 (Below w.heap.size w w70) := ⟨by rw [← hq_]; exact (by repeat (first | (with_reducible first | exact HB.out | apply below_alloc | apply pw_below_drewN | apply below_drew1 | refine below_set ?_ GE266.out | refine below_set ?_ GE282.out) | exact HB.out))⟩; clear HO_0 BK266 BK282 HB hq_; have HO_0 := n0_; have BK266 := n1_; have BK282 := n2_; have HB := n3_; clear n0_ n1_ n2_ n3_)); have hcz71_0 : w70.cell? ⟨gb282, 0, none⟩ = some (.int .u8 (rd l0 1)) := (blk_cell BK282.out 0).trans rfl; have hcz71_1 : w70.cell? ⟨gb282, 1, none⟩ = some (.int .u16 (IntKind.u16.wrap (t279))) := (blk_cell BK282.out 1).trans rfl; have hcz71_2 : w70.cell? ⟨gb282, 2, none⟩ = some (.bool ((((Int.tdiv (rd l0 6) 64) % 256) % 2) == 1)) := (blk_cell BK282.out 2).trans rfl; have hcz71_3 : w70.cell? ⟨gb282, 3, none⟩ = some (.bool ((((Int.tdiv (rd l0 6) 32) % 256) % 2) == 1)) := (blk_cell BK282.out 3).trans rfl; have hcz71_4 : w70.cell? ⟨gb282, 4, none⟩ = some (.int .i64 (Int.tmod t285 8192)) := (blk_cell BK282.out 4).trans rfl; have hcz71_5 : w70.cell? ⟨gb282, 5, none⟩ = some (.int .u8 (rd l0 8)) := (blk_cell BK282.out 5).trans rfl; have hcz71_6 : w70.cell? ⟨gb282, 6, none⟩ = some (.int .u8 (rd l0 9)) := (blk_cell BK282.out 6).trans rfl; have hcz71_7 : w70.cell? ⟨gb282, 7, none⟩ = some (.int .u32 ((wrap64 ((wrap64 (65536 * t286)) + t287)) % 4294967296)) := (blk_cell BK282.out 7).trans rfl; have hcz71_8 : w70.cell? ⟨gb282, 8, none⟩ = some (.int .u32 0) := (blk_cell BK282.out 8).trans rfl; have hcz71_9 : w70.cell? ⟨gb282, 9, none⟩ = some (.slice none 0 0) := (blk_cell BK282.out 9).trans rfl; have hcz71_10 : w70.cell? ⟨gb282, 10, none⟩ = some (.slice none 0 0) := (blk_cell BK282.out 10).trans rfl; have hfz71_0 := blk_frozen BK282.out 0; have hfz71_1 := blk_frozen BK282.out 1; have hfz71_2 := blk_frozen BK282.out 2; have hfz71_3 := blk_frozen BK282.out 3; have hfz71_4 := blk_frozen BK282.out 4; have hfz71_5 := blk_frozen BK282.out 5; have hfz71_6 := blk_frozen BK282.out 6; have hfz71_7 := blk_frozen BK282.out 7; have hfz71_8 := blk_frozen BK282.out 8; have hfz71_9 := blk_frozen BK282.out 9; have hfz71_10 := blk_frozen BK282.out 10) | ((with_reducible refine gate_store (t := 35) (p := 102) rfl ?_); refine store_event (t := 35) (p := 102) (v := ?vo_w72) (w1 := (w70.setCell ⟨gb282, 8, none⟩ (.int .u32 ((wrap64 ((wrap64 (65536 * t288)) + t289)) % 4294967296)))) ?hg ?ho ?hn ?hr ?_; (case ho => rfl); (case hg => rfl); (case hn => rfl); (case hr => first | (go_simp; done) | (go_simp; rfl)); intro w72 hw; have n0_ : Aside0 (Kd.V (Kd.int .u8) 5 w72 w.heap.size (fun k_ => (P0_ k_ ∨ w.heap.size ≤ k_) ∧ k_ ≠ gb266 ∧ k_ ≠ gb282) (.slice (some ad269) l0.length c0) l0) := ⟨(by rw [hw]; exact (by (with_reducible repeat (first | apply Kd.V_alloc | apply Kd.V_drewN | apply Kd.V_drew)); exact Kd.V_mono (Kd.V_far (p := ⟨gb282, 8, none⟩) (Kd.V_mono HO_0.out (fun k_ hk => (⟨hk, hk.2.2⟩ : _ ∧ k_ ≠ gb282))) (fun _ hk => hk.2) (.int .u32 ((wrap64 ((wrap64 (65536 * t288)) + t289)) % 4294967296))) (fun _ hk => ⟨hk.1.1, ⟨hk.1.2.1, hk.1.2.2⟩⟩)))⟩; have n1_ : Aside0 (w72.heap[gb266]? = some (.cells #[.int .u8 0, .int .u16 0, .bool false, .bool false, .int .i64 0, .int .u8 0, .int .u8 0, .int .u32 0, .int .u32 0, .slice none 0 0, .slice none 0 0] 37 (0, 0))) := ⟨(by rw [hw]; exact (by (with_reducible repeat (first | refine blk_drewN ?_ _ | refine blk_drew ?_ | refine blk_alloc ?_ _)); refine blk_far ?_ NB266_282.out _; (with_reducible repeat (first | refine blk_drewN ?_ _ | refine blk_drew ?_ | refine blk_alloc ?_ _)); exact BK266.out))⟩; have n2_ : Aside0 (w72.heap[gb282]? = some (.cells #[.int .u8 (rd l0 1), .int .u16 (IntKind.u16.wrap (t279)), .bool ((((Int.tdiv (rd l0 6) 64) % 256) % 2) == 1), .bool ((((Int.tdiv (rd l0 6) 32) % 256) % 2) == 1), .int .i64 (Int.tmod t285 8192), .int .u8 (rd l0 8), .int .u8 (rd l0 9), .int .u32 ((wrap64 ((wrap64 (65536 * t286)) + t287)) % 4294967296), .int .u32 ((wrap64 ((wrap64 (65536 * t288)) + t289)) % 4294967296), .slice none 0 0, .slice none 0 0] 37 (0, 0))) := ⟨(by rw [hw]; exact (by (with_reducible repeat (first | refine blk_drewN ?_ _ | refine blk_drew ?_ | refine blk_alloc ?_ _)); refine blk_put (cs := #[.int .u8 (rd l0 1), .int .u16 (IntKind.u16.wrap (t279)), .bool ((((Int.tdiv (rd l0 6) 64) % 256) % 2) == 1), .bool ((((Int.tdiv (rd l0 6) 32) % 256) % 2) == 1), .int .i64 (Int.tmod t285 8192), .int .u8 (rd l0 8), .int .u8 (rd l0 9), .int .u32 ((wrap64 ((wrap64 (65536 * t286)) + t287)) % 4294967296), .int .u32 0, .slice none 0 0, .slice none 0 0]) ?_ 8 _ rfl; (with_reducible repeat (first | refine blk_drewN ?_ _ | refine blk_drew ?_ | refine blk_alloc ?_ _)); exact BK282.out))⟩; have n3_ : Aside0 (Below w.heap.size w w72) := ⟨(by rw [hw]; exact (by repeat (first | (with_reducible first | exact HB.out | apply below_alloc | apply pw_below_drewN | apply below_drew1 | refine below_set ?_ GE266.out | refine below_set ?_ GE282.out) | exact HB.out)))⟩; clear hw; clear HO_0; clear BK266; clear BK282; clear HB; have HO_0 := n0_; have BK266 := n1_; have BK282 := n2_; have HB := n3_; clear n0_ n1_ n2_ n3_))
                       have n0_ := Aside0.mk (Kd.V_drew HO_0.out)
                       have n1_ := Aside0.mk (blk_drew BK266.out)
                       have n2_ := Aside0.mk (blk_drew BK282.out)
                       have n3_ := Aside0.mk (below_drew1 HB.out)
                       clear HO_0
                       clear BK266
                       clear BK282
                       clear HB
                       have HO_0 := n0_
                       have BK266 := n1_
                       have BK282 := n2_
                       have HB := n3_
                       clear n0_ n1_ n2_ n3_
                       have q74 : (ji17 : Int) ≤ ((l0.length : Int) : Int) := of_decide_eq_true (by first | (with_reducible assumption) | assumption)
                       obtain ⟨i074, hi074, _, hsz74, _⟩ := info_parts info5
                       have hroom74 : l0.length ≤ c0 := (Kd.V_reads' HO_0.out).2.1
                       have hC74 : Kd.F (Kd.int .u8) _ _ (some ad269) l0.length l0 := (Kd.V_at (base := w.heap.size) HO_0.out).2.2
                       have ql74 : (20 : Int) ≤ (ji17 : Int) := of_decide_eq_true (by first | (with_reducible assumption) | assumption)
                       have hcut74 := cut_mid (P := Try.prog) 23 5 .i64 .i64 Try.underlying23 hi074 1 hsz74 (some ad269) l0.length c0 20 ji17 (by omega) ql74 q74 hroom74
                       have hr74 := Kd.F_mid (lo := (20 : Int).toNat) (hi := (ji17 : Int).toNat) (c := c0) hC74 (by omega) (by omega) hroom74
                       obtain ⟨A74, hA74⟩ : ∃ A1, A1 = (if c0 = (20 : Int).toNat then (some ad269) else ((some ad269) : Option Addr).map (·.add ((20 : Int).toNat * 1))) := ⟨_, rfl⟩
                       obtain ⟨c74, hc74⟩ : ∃ c1, c1 = c0 - (20 : Int).toNat := ⟨_, rfl⟩
                       have hy74 : y290.length = (ji17 : Int).toNat - (20 : Int).toNat := (by rw [Ny290.out, List.length_drop, List.length_take] <;> omega)
                       rw [show ((l0).take (ji17 : Int).toNat).drop (20 : Int).toNat = y290 from Ny290.out.symm] at hr74
                       replace hr74 : Kd.F (Kd.int .u8) _ _ A74 y290.length y290 := (by rw [hA74]; exact hr74)
                       rw [← hy74, ← hA74, ← hc74] at hcut74
                       have HO294 := Aside0.mk (show Kd.V (Kd.int .u8) 5 _ w.heap.size _ (.slice A74 y290.length c74) y290 from Kd.V_mk (by rw [hy74, hc74]; exact Nat.sub_le_sub_right (Nat.le_trans (by omega) hroom74) _) hr74)
                       have HC294 := Aside0.mk (show y290.length ≤ c74 from by rw [hy74, hc74]; exact Nat.sub_le_sub_right (Nat.le_trans (by omega) hroom74) _)
                       clear hr74 hC74 hroom74 hi074 hsz74 hc74
                       have KY74 := Aside0.mk hy74
                       have KA74 := Aside0.mk hA74
                       clear hy74 hA74
                       replace q74 := eq_true q74
                       have q75 : (t276 : Int) ≤ ((l0.length : Int) : Int) := of_decide_eq_true (by first | (with_reducible assumption) | assumption)
                       obtain ⟨i075, hi075, _, hsz75, _⟩ := info_parts info5
                       have hroom75 : l0.length ≤ c0 := (Kd.V_reads' HO_0.out).2.1
                       have hC75 : Kd.F (Kd.int .u8) _ _ (some ad269) l0.length l0 := (Kd.V_at (base := w.heap.size) HO_0.out).2.2
                       have ql75 : (ji17 : Int) ≤ (t276 : Int) := of_decide_eq_true (by first | (with_reducible assumption) | assumption)
                       have q075 : (0 : Int) ≤ (ji17 : Int) := of_decide_eq_true (by first | (with_reducible assumption) | assumption)
                       have hcut75 := cut_mid (P := Try.prog) 23 5 .i64 .i64 Try.underlying23 hi075 1 hsz75 (some ad269) l0.length c0 ji17 t276 q075 ql75 q75 hroom75
                       have hr75 := Kd.F_mid (lo := (ji17 : Int).toNat) (hi := (t276 : Int).toNat) (c := c0) hC75 (by omega) (by omega) hroom75
                       obtain ⟨A75, hA75⟩ : ∃ A1, A1 = (if c0 = (ji17 : Int).toNat then (some ad269) else ((some ad269) : Option Addr).map (·.add ((ji17 : Int).toNat * 1))) := ⟨_, rfl⟩
                       obtain ⟨c75, hc75⟩ : ∃ c1, c1 = c0 - (ji17 : Int).toNat := ⟨_, rfl⟩
                       have hy75 : y295.length = (t276 : Int).toNat - (ji17 : Int).toNat := (by rw [Ny295.out, List.length_drop, List.length_take] <;> omega)
                       rw [show ((l0).take (t276 : Int).toNat).drop (ji17 : Int).toNat = y295 from Ny295.out.symm] at hr75
                       replace hr75 : Kd.F (Kd.int .u8) _ _ A75 y295.length y295 := (by rw [hA75]; exact hr75)
                       rw [← hy75, ← hA75, ← hc75] at hcut75
                       have HO299 := Aside0.mk (show Kd.V (Kd.int .u8) 5 _ w.heap.size _ (.slice A75 y295.length c75) y295 from Kd.V_mk (by rw [hy75, hc75]; exact Nat.sub_le_sub_right (Nat.le_trans (by omega) hroom75) _) hr75)
                       have HC299 := Aside0.mk (show y295.length ≤ c75 from by rw [hy75, hc75]; exact Nat.sub_le_sub_right (Nat.le_trans (by omega) hroom75) _)
                       clear hr75 hC75 hroom75 hi075 hsz75 hc75
                       have KY75 := Aside0.mk hy75
                       have KA75 := Aside0.mk hA75
                       clear hy75 hA75
                       replace q75 := eq_true q75
                       refine start_ (n := 11) (S := fun w' => True) (ds := []) (bb 11 0) (by kernel_rfl) rfl rfl trivial (fun hHeld => ?_); refine with_tabW towroperef06_Get.tab21 towroperef06_Get.bits21 (fun HT_ HW_ => ?_)
                       generalize w72.drew = w73 at HO_0 BK266 BK282 HB HO294 HO299 hHeld ⊢
                       refine pure_ (i := 0) (N := some 103) (v := ?_) (a' := ?_) (bb 11 1) rfl rfl (any_of HT_.out (by kernel_rfl)) (fun _ _ _ h => h) (Or.inl ⟨by rfl, ?_⟩) ?_ ?_
                       rotate_left
                       ·
                        intro w'
                        go_simp
                        with_reducible rfl
                       rotate_left
                       ·
                        simp only [Act.put, List.setIfInBounds_toArray, List.set_cons_zero, List.set_cons_succ, i64_w, i32_w]
                        rfl
                       refine pure_ (i := 1) (N := some 104) (v := ?_) (a' := ?_) (bb 11 3) rfl rfl (any_of HT_.out (by kernel_rfl)) (fun _ _ _ h => h) (Or.inl ⟨by rfl, ?_⟩) ?_ ?_
                       rotate_left
                       ·
                        intro w'
                        go_simp
                        with_reducible rfl
                       rotate_left
                       ·
                        simp only [Act.put, List.setIfInBounds_toArray, List.set_cons_zero, List.set_cons_succ, i64_w, i32_w]
                        rfl
                       refine pure_ (i := 2) (N := some 105) (v := ?_) (a' := ?_) (bb 11 7) rfl rfl (any_of HT_.out (by kernel_rfl)) (fun _ _ _ h => h) (Or.inl ⟨by rfl, ?_⟩) ?_ ?_
                       rotate_left
                       ·
                        intro w'
                        go_simp
                        with_reducible rfl
                       rotate_left
                       ·
                        simp only [Act.put, List.setIfInBounds_toArray, List.set_cons_zero, List.set_cons_succ, i64_w, i32_w]
                        rfl
                       refine pure_ (i := 3) (N := some 106) (v := ?_) (a' := ?_) (bb 11 15) rfl rfl (any_of HT_.out (by kernel_rfl)) (fun _ _ _ h => h) (Or.inl ⟨by rfl, ?_⟩) ?_ ?_
                       rotate_left
                       ·
                        intro w'
                        go_simp
                        with_reducible rfl
                       rotate_left
                       ·
                        simp only [Act.put, List.setIfInBounds_toArray, List.set_cons_zero, List.set_cons_succ, i64_w, i32_w]
                        rfl
                       refine pure_ (i := 4) (N := some 107) (v := ?_) (a' := ?_) (bb 11 31) rfl rfl (any_of HT_.out (by kernel_rfl)) (fun _ _ _ h => h) (Or.inl ⟨by rfl, ?_⟩) ?_ ?_
                       rotate_left
                       ·
                        intro w'
                        go_simp
                        with_reducible rfl
                       rotate_left
                       ·
                        simp only [Act.put, List.setIfInBounds_toArray, List.set_cons_zero, List.set_cons_succ, i64_w, i32_w]
                        rfl
                       refine pure_ (i := 5) (N := some 108) (v := ?_) (a' := ?_) (bb 11 63) rfl rfl (any_of HT_.out (by kernel_rfl)) (fun _ _ _ h => h) (Or.inl ⟨by rfl, ?_⟩) ?_ ?_
                       rotate_left
                       ·
                        intro w'
                        go_simp
                        with_reducible rfl
                       rotate_left
                       ·
                        simp only [Act.put, List.setIfInBounds_toArray, List.set_cons_zero, List.set_cons_succ, i64_w, i32_w]
                        rfl
                       refine pure_ (i := 6) (N := some 109) (v := ?_) (a' := ?_) (bb 11 127) rfl rfl (any_of HT_.out (by kernel_rfl)) (fun _ _ _ h => h) (Or.inl ⟨by rfl, ?_⟩) ?_ ?_
                       rotate_left
                       ·
                        intro w'
                        go_simp
                        with_reducible rfl
                       rotate_left
                       ·
                        simp only [Act.put, List.setIfInBounds_toArray, List.set_cons_zero, List.set_cons_succ, i64_w, i32_w]
                        rfl
                       refine pure_ (i := 7) (N := some 110) (v := ?_) (a' := ?_) (bb 11 255) rfl rfl (any_of HT_.out (by kernel_rfl)) (fun _ _ _ h => h) (Or.inl ⟨by rfl, ?_⟩) ?_ ?_
                       rotate_left
                       ·
                        intro w'
                        go_simp
                        with_reducible rfl
                       rotate_left
                       ·
                        simp only [Act.put, List.setIfInBounds_toArray, List.set_cons_zero, List.set_cons_succ, i64_w, i32_w]
                        rfl
                       refine one_ (i := 8) (N := none) (bb 11 511) rfl rfl (one_of HT_.out (by kernel_rfl)) (by decide) (fun K hK => ?_)
                       have hs76 : w73.cell? ⟨gb282, 9, none⟩ = some (.slice none 0 0) := (blk_cell BK282.out 9).trans rfl
                       have hfs76 := blk_frozen BK282.out 9
                       have hns76_0 := NB266_282.out
                       have hms76_0 := NB282_266.out
                       refine skip_ (w1 := ?_) (by rfl) rfl ?_ ?_
                       rotate_left
                       ·
                        go_simp
                        rfl
                       refine hK.out _ _ trivial (fun hHeld => ?_)
                       clear hK K
                       refine pure_ (i := 9) (N := some 111) (v := ?_) (a' := ?_) (bb 11 1023) rfl rfl (any_of HT_.out (by kernel_rfl)) (fun _ _ _ h => h) (Or.inl ⟨by rfl, ?_⟩) ?_ ?_
                       rotate_left
                       ·
                        intro w'
                        go_simp
                        with_reducible rfl
                       rotate_left
                       ·
                        simp only [Act.put, List.setIfInBounds_toArray, List.set_cons_zero, List.set_cons_succ, i64_w, i32_w]
                        rfl
                       refine one_ (i := 10) (N := none) (bb 11 2047) rfl rfl (one_of HT_.out (by kernel_rfl)) (by decide) (fun K hK => ?_)
                       have hs77 : w73.cell? ⟨gb282, 10, none⟩ = some (.slice none 0 0) := (blk_cell BK282.out 10).trans rfl
                       have hfs77 := blk_frozen BK282.out 10
                       have hns77_0 := NB266_282.out
                       have hms77_0 := NB282_266.out
                       refine skip_ (w1 := ?_) (by rfl) rfl ?_ ?_
                       rotate_left
                       ·
                        go_simp
                        rfl
                       refine hK.out _ _ trivial (fun hHeld => ?_)
                       clear hK K
                       refine done_ (done_of HT_.out (by kernel_rfl)) ?_
                       have hcz78_0 : w73.cell? ⟨gb282, 0, none⟩ = some (.int .u8 (rd l0 1)) := (blk_cell BK282.out 0).trans rfl
                       have hcz78_1 : w73.cell? ⟨gb282, 1, none⟩ = some (.int .u16 (IntKind.u16.wrap (t279))) := (blk_cell BK282.out 1).trans rfl
                       have hcz78_2 : w73.cell? ⟨gb282, 2, none⟩ = some (.bool ((((Int.tdiv (rd l0 6) 64) % 256) % 2) == 1)) := (blk_cell BK282.out 2).trans rfl
                       have hcz78_3 : w73.cell? ⟨gb282, 3, none⟩ = some (.bool ((((Int.tdiv (rd l0 6) 32) % 256) % 2) == 1)) := (blk_cell BK282.out 3).trans rfl
                       have hcz78_4 : w73.cell? ⟨gb282, 4, none⟩ = some (.int .i64 (Int.tmod t285 8192)) := (blk_cell BK282.out 4).trans rfl
                       have hcz78_5 : w73.cell? ⟨gb282, 5, none⟩ = some (.int .u8 (rd l0 8)) := (blk_cell BK282.out 5).trans rfl
                       have hcz78_6 : w73.cell? ⟨gb282, 6, none⟩ = some (.int .u8 (rd l0 9)) := (blk_cell BK282.out 6).trans rfl
                       have hcz78_7 : w73.cell? ⟨gb282, 7, none⟩ = some (.int .u32 ((wrap64 ((wrap64 (65536 * t286)) + t287)) % 4294967296)) := (blk_cell BK282.out 7).trans rfl
                       have hcz78_8 : w73.cell? ⟨gb282, 8, none⟩ = some (.int .u32 ((wrap64 ((wrap64 (65536 * t288)) + t289)) % 4294967296)) := (blk_cell BK282.out 8).trans rfl
                       have hcz78_9 : w73.cell? ⟨gb282, 9, none⟩ = some (.slice none 0 0) := (blk_cell BK282.out 9).trans rfl
                       have hcz78_10 : w73.cell? ⟨gb282, 10, none⟩ = some (.slice none 0 0) := (blk_cell BK282.out 10).trans rfl
                       have hfz78_0 := blk_frozen BK282.out 0
                       have hfz78_1 := blk_frozen BK282.out 1
                       have hfz78_2 := blk_frozen BK282.out 2
                       have hfz78_3 := blk_frozen BK282.out 3
                       have hfz78_4 := blk_frozen BK282.out 4
                       have hfz78_5 := blk_frozen BK282.out 5
                       have hfz78_6 := blk_frozen BK282.out 6
                       have hfz78_7 := blk_frozen BK282.out 7
                       have hfz78_8 := blk_frozen BK282.out 8
                       have hfz78_9 := blk_frozen BK282.out 9
                       have hfz78_10 := blk_frozen BK282.out 10
                       have hcz79_0 : w73.cell? ⟨gb266, 0, none⟩ = some (.int .u8 0) := (blk_cell BK266.out 0).trans rfl
                       have hcz79_1 : w73.cell? ⟨gb266, 1, none⟩ = some (.int .u16 0) := (blk_cell BK266.out 1).trans rfl
                       have hcz79_2 : w73.cell? ⟨gb266, 2, none⟩ = some (.bool false) := (blk_cell BK266.out 2).trans rfl
                       have hcz79_3 : w73.cell? ⟨gb266, 3, none⟩ = some (.bool false) := (blk_cell BK266.out 3).trans rfl
                       have hcz79_4 : w73.cell? ⟨gb266, 4, none⟩ = some (.int .i64 0) := (blk_cell BK266.out 4).trans rfl
                       have hcz79_5 : w73.cell? ⟨gb266, 5, none⟩ = some (.int .u8 0) := (blk_cell BK266.out 5).trans rfl
                       have hcz79_6 : w73.cell? ⟨gb266, 6, none⟩ = some (.int .u8 0) := (blk_cell BK266.out 6).trans rfl
                       have hcz79_7 : w73.cell? ⟨gb266, 7, none⟩ = some (.int .u32 0) := (blk_cell BK266.out 7).trans rfl
                       have hcz79_8 : w73.cell? ⟨gb266, 8, none⟩ = some (.int .u32 0) := (blk_cell BK266.out 8).trans rfl
                       have hcz79_9 : w73.cell? ⟨gb266, 9, none⟩ = some (.slice none 0 0) := (blk_cell BK266.out 9).trans rfl
                       have hcz79_10 : w73.cell? ⟨gb266, 10, none⟩ = some (.slice none 0 0) := (blk_cell BK266.out 10).trans rfl
                       have hfz79_0 := blk_frozen BK266.out 0
                       have hfz79_1 := blk_frozen BK266.out 1
                       have hfz79_2 := blk_frozen BK266.out 2
                       have hfz79_3 := blk_frozen BK266.out 3
                       have hfz79_4 := blk_frozen BK266.out 4
                       have hfz79_5 := blk_frozen BK266.out 5
                       have hfz79_6 := blk_frozen BK266.out 6
                       have hfz79_7 := blk_frozen BK266.out 7
                       have hfz79_8 := blk_frozen BK266.out 8
                       have hfz79_9 := blk_frozen BK266.out 9
                       have hfz79_10 := blk_frozen BK266.out 10
                       try go_wp2_with (first | ((with_reducible refine gate_store (t := 37) (p := 2) rfl ?_); refine store_event (t := 37) (p := 2) (v := ?vo_w80) (w1 := (((((((((((((w73.setCell ⟨gb282, 9, none⟩ (.slice A74 y290.length c74)).setCell ⟨gb282, 10, none⟩ (.slice A75 y295.length c75)).setCell ⟨gb266, 0, none⟩ (.int .u8 (rd l0 1))).setCell ⟨gb266, 1, none⟩ (.int .u16 (IntKind.u16.wrap (t279)))).setCell ⟨gb266, 2, none⟩ (.bool ((((Int.tdiv (rd l0 6) 64) % 256) % 2) == 1))).setCell ⟨gb266, 3, none⟩ (.bool ((((Int.tdiv (rd l0 6) 32) % 256) % 2) == 1))).setCell ⟨gb266, 4, none⟩ (.int .i64 (Int.tmod t285 8192))).setCell ⟨gb266, 5, none⟩ (.int .u8 (rd l0 8))).setCell ⟨gb266, 6, none⟩ (.int .u8 (rd l0 9))).setCell ⟨gb266, 7, none⟩ (.int .u32 ((wrap64 ((wrap64 (65536 * t286)) + t287)) % 4294967296))).setCell ⟨gb266, 8, none⟩ (.int .u32 ((wrap64 ((wrap64 (65536 * t288)) + t289)) % 4294967296))).setCell ⟨gb266, 9, none⟩ (.slice A74 y290.length c74)).setCell ⟨gb266, 10, none⟩ (.slice A75 y295.length c75))) ?hg ?ho ?hn ?hr ?_; (case ho => rfl); (case hg => rfl); (case hn => rfl); (case hr => first | (go_simp; done) | (go_simp; rfl)); intro w80 hw; have n0_ : Aside0 (Kd.V (Kd.int .u8) 5 w80 w.heap.size (fun k_ => (P0_ k_ ∨ w.heap.size ≤ k_) ∧ k_ ≠ gb266 ∧ k_ ≠ gb282) (.slice (some ad269) l0.length c0) l0) := ⟨(by rw [hw]; exact (by (with_reducible repeat (first | apply Kd.V_alloc | apply Kd.V_drewN | apply Kd.V_drew)); exact Kd.V_mono (Kd.V_far (p := ⟨gb266, 10, none⟩) (Kd.V_far (p := ⟨gb266, 9, none⟩) (Kd.V_far (p := ⟨gb266, 8, none⟩) (Kd.V_far (p := ⟨gb266, 7, none⟩) (Kd.V_far (p := ⟨gb266, 6, none⟩) (Kd.V_far (p := ⟨gb266, 5, none⟩) (Kd.V_far (p := ⟨gb266, 4, none⟩) (Kd.V_far (p := ⟨gb266, 3, none⟩) (Kd.V_far (p := ⟨gb266, 2, none⟩) (Kd.V_far (p := ⟨gb266, 1, none⟩) (Kd.V_far (p := ⟨gb266, 0, none⟩) (Kd.V_far (p := ⟨gb282, 10, none⟩) (Kd.V_far (p := ⟨gb282, 9, none⟩) (Kd.V_mono (Kd.V_mono HO_0.out (fun k_ hk => (⟨hk, hk.2.2⟩ : _ ∧ k_ ≠ gb282))) (fun k_ hk => (⟨hk, hk.1.2.1⟩ : _ ∧ k_ ≠ gb266))) (fun _ hk => hk.1.2) (.slice A74 y290.length c74)) (fun _ hk => hk.1.2) (.slice A75 y295.length c75)) (fun _ hk => hk.2) (.int .u8 (rd l0 1))) (fun _ hk => hk.2) (.int .u16 (IntKind.u16.wrap (t279)))) (fun _ hk => hk.2) (.bool ((((Int.tdiv (rd l0 6) 64) % 256) % 2) == 1))) (fun _ hk => hk.2) (.bool ((((Int.tdiv (rd l0 6) 32) % 256) % 2) == 1))) (fun _ hk => hk.2) (.int .i64 (Int.tmod t285 8192))) (fun _ hk => hk.2) (.int .u8 (rd l0 8))) (fun _ hk => hk.2) (.int .u8 (rd l0 9))) (fun _ hk => hk.2) (.int .u32 ((wrap64 ((wrap64 (65536 * t286)) + t287)) % 4294967296))) (fun _ hk => hk.2) (.int .u32 ((wrap64 ((wrap64 (65536 * t288)) + t289)) % 4294967296))) (fun _ hk => hk.2) (.slice A74 y290.length c74)) (fun _ hk => hk.2) (.slice A75 y295.length c75)) (fun _ hk => ⟨hk.1.1.1, ⟨hk.1.1.2.1, hk.1.1.2.2⟩⟩)))⟩; have n1_ : Aside0 (Kd.V (Kd.int .u8) 5 w80 w.heap.size (fun k_ => (P0_ k_ ∨ w.heap.size ≤ k_) ∧ k_ ≠ gb266 ∧ k_ ≠ gb282) (.slice A74 y290.length c74) y290) := ⟨(by rw [hw]; exact (by (with_reducible repeat (first | apply Kd.V_alloc | apply Kd.V_drewN | apply Kd.V_drew)); exact Kd.V_mono (Kd.V_far (p := ⟨gb266, 10, none⟩) (Kd.V_far (p := ⟨gb266, 9, none⟩) (Kd.V_far (p := ⟨gb266, 8, none⟩) (Kd.V_far (p := ⟨gb266, 7, none⟩) (Kd.V_far (p := ⟨gb266, 6, none⟩) (Kd.V_far (p := ⟨gb266, 5, none⟩) (Kd.V_far (p := ⟨gb266, 4, none⟩) (Kd.V_far (p := ⟨gb266, 3, none⟩) (Kd.V_far (p := ⟨gb266, 2, none⟩) (Kd.V_far (p := ⟨gb266, 1, none⟩) (Kd.V_far (p := ⟨gb266, 0, none⟩) (Kd.V_far (p := ⟨gb282, 10, none⟩) (Kd.V_far (p := ⟨gb282, 9, none⟩) (Kd.V_mono (Kd.V_mono HO294.out (fun k_ hk => (⟨hk, hk.2.2⟩ : _ ∧ k_ ≠ gb282))) (fun k_ hk => (⟨hk, hk.1.2.1⟩ : _ ∧ k_ ≠ gb266))) (fun _ hk => hk.1.2) (.slice A74 y290.length c74)) (fun _ hk => hk.1.2) (.slice A75 y295.length c75)) (fun _ hk => hk.2) (.int .u8 (rd l0 1))) (fun _ hk => hk.2) (.int .u16 (IntKind.u16.wrap (t279)))) (fun _ hk => hk.2) (.bool ((((Int.tdiv (rd l0 6) 64) % 256) % 2) == 1))) (fun _ hk => hk.2) (.bool ((((Int.tdiv (rd l0 6) 32) % 256) % 2) == 1))) (fun _ hk => hk.2) (.int .i64 (Int.tmod t285 8192))) (fun _ hk => hk.2) (.int .u8 (rd l0 8))) (fun _ hk => hk.2) (.int .u8 (rd l0 9))) (fun _ hk => hk.2) (.int .u32 ((wrap64 ((wrap64 (65536 * t286)) + t287)) % 4294967296))) (fun _ hk => hk.2) (.int .u32 ((wrap64 ((wrap64 (65536 * t288)) + t289)) % 4294967296))) (fun _ hk => hk.2) (.slice A74 y290.length c74)) (fun _ hk => hk.2) (.slice A75 y295.length c75)) (fun _ hk => ⟨hk.1.1.1, ⟨hk.1.1.2.1, hk.1.1.2.2⟩⟩)))⟩; have n2_ : Aside0 (Kd.V (Kd.int .u8) 5 w80 w.heap.size (fun k_ => (P0_ k_ ∨ w.heap.size ≤ k_) ∧ k_ ≠ gb266 ∧ k_ ≠ gb282) (.slice A75 y295.length c75) y295) := ⟨(by rw [hw]; exact (by (with_reducible repeat (first | apply Kd.V_alloc | apply Kd.V_drewN | apply Kd.V_drew)); exact Kd.V_mono (Kd.V_far (p := ⟨gb266, 10, none⟩) (Kd.V_far (p := ⟨gb266, 9, none⟩) (Kd.V_far (p := ⟨gb266, 8, none⟩) (Kd.V_far (p := ⟨gb266, 7, none⟩) (Kd.V_far (p := ⟨gb266, 6, none⟩) (Kd.V_far (p := ⟨gb266, 5, none⟩) (Kd.V_far (p := ⟨gb266, 4, none⟩) (Kd.V_far (p := ⟨gb266, 3, none⟩) (Kd.V_far (p := ⟨gb266, 2, none⟩) (Kd.V_far (p := ⟨gb266, 1, none⟩) (Kd.V_far (p := ⟨gb266, 0, none⟩) (Kd.V_far (p := ⟨gb282, 10, none⟩) (Kd.V_far (p := ⟨gb282, 9, none⟩) (Kd.V_mono (Kd.V_mono HO299.out (fun k_ hk => (⟨hk, hk.2.2⟩ : _ ∧ k_ ≠ gb282))) (fun k_ hk => (⟨hk, hk.1.2.1⟩ : _ ∧ k_ ≠ gb266))) (fun _ hk => hk.1.2) (.slice A74 y290.length c74)) (fun _ hk => hk.1.2) (.slice A75 y295.length c75)) (fun _ hk => hk.2) (.int .u8 (rd l0 1))) (fun _ hk => hk.2) (.int .u16 (IntKind.u16.wrap (t279)))) (fun _ hk => hk.2) (.bool ((((Int.tdiv (rd l0 6) 64) % 256) % 2) == 1))) (fun _ hk => hk.2) (.bool ((((Int.tdiv (rd l0 6) 32) % 256) % 2) == 1))) (fun _ hk => hk.2) (.int .i64 (Int.tmod t285 8192))) (fun _ hk => hk.2) (.int .u8 (rd l0 8))) (fun _ hk => hk.2) (.int .u8 (rd l0 9))) (fun _ hk => hk.2) (.int .u32 ((wrap64 ((wrap64 (65536 * t286)) + t287)) % 4294967296))) (fun _ hk => hk.2) (.int .u32 ((wrap64 ((wrap64 (65536 * t288)) + t289)) % 4294967296))) (fun _ hk => hk.2) (.slice A74 y290.length c74)) (fun _ hk => hk.2) (.slice A75 y295.length c75)) (fun _ hk => ⟨hk.1.1.1, ⟨hk.1.1.2.1, hk.1.1.2.2⟩⟩)))⟩; have n3_ : Aside0 (w80.heap[gb266]? = some (.cells #[.int .u8 (rd l0 1), .int .u16 (IntKind.u16.wrap (t279)), .bool ((((Int.tdiv (rd l0 6) 64) % 256) % 2) == 1), .bool ((((Int.tdiv (rd l0 6) 32) % 256) % 2) == 1), .int .i64 (Int.tmod t285 8192), .int .u8 (rd l0 8), .int .u8 (rd l0 9), .int .u32 ((wrap64 ((wrap64 (65536 * t286)) + t287)) % 4294967296), .int .u32 ((wrap64 ((wrap64 (65536 * t288)) + t289)) % 4294967296), .slice A74 y290.length c74, .slice A75 y295.length c75] 37 (0, 0))) := ⟨(by rw [hw]; exact (by (with_reducible repeat (first | refine blk_drewN ?_ _ | refine blk_drew ?_ | refine blk_alloc ?_ _)); refine blk_put (cs := #[.int .u8 (rd l0 1), .int .u16 (IntKind.u16.wrap (t279)), .bool ((((Int.tdiv (rd l0 6) 64) % 256) % 2) == 1), .bool ((((Int.tdiv (rd l0 6) 32) % 256) % 2) == 1), .int .i64 (Int.tmod t285 8192), .int .u8 (rd l0 8), .int .u8 (rd l0 9), .int .u32 ((wrap64 ((wrap64 (65536 * t286)) + t287)) % 4294967296), .int .u32 ((wrap64 ((wrap64 (65536 * t288)) + t289)) % 4294967296), .slice A74 y290.length c74, .slice none 0 0]) ?_ 10 _ rfl; (with_reducible repeat (first | refine blk_drewN ?_ _ | refine blk_drew ?_ | refine blk_alloc ?_ _)); refine blk_put (cs := #[.int .u8 (rd l0 1), .int .u16 (IntKind.u16.wrap (t279)), .bool ((((Int.tdiv (rd l0 6) 64) % 256) % 2) == 1), .bool ((((Int.tdiv (rd l0 6) 32) % 256) % 2) == 1), .int .i64 (Int.tmod t285 8192), .int .u8 (rd l0 8), .int .u8 (rd l0 9), .int .u32 ((wrap64 ((wrap64 (65536 * t286)) + t287)) % 4294967296), .int .u32 ((wrap64 ((wrap64 (65536 * t288)) + t289)) % 4294967296), .slice none 0 0, .slice none 0 0]) ?_ 9 _ rfl; (with_reducible repeat (first | refine blk_drewN ?_ _ | refine blk_drew ?_ | refine blk_alloc ?_ _)); refine blk_put (cs := #[.int .u8 (rd l0 1), .int .u16 (IntKind.u16.wrap (t279)), .bool ((((Int.tdiv (rd l0 6) 64) % 256) % 2) == 1), .bool ((((Int.tdiv (rd l0 6) 32) % 256) % 2) == 1), .int .i64 (Int.tmod t285 8192), .int .u8 (rd l0 8), .int .u8 (rd l0 9), .int .u32 ((wrap64 ((wrap64 (65536 * t286)) + t287)) % 4294967296), .int .u32 0, .slice none 0 0, .slice none 0 0]) ?_ 8 _ rfl; (with_reducible repeat (first | refine blk_drewN ?_ _ | refine blk_drew ?_ | refine blk_alloc ?_ _)); refine blk_put (cs := #[.int .u8 (rd l0 1), .int .u16 (IntKind.u16.wrap (t279)), .bool ((((Int.tdiv (rd l0 6) 64) % 256) % 2) == 1), .bool ((((Int.tdiv (rd l0 6) 32) % 256) % 2) == 1), .int .i64 (Int.tmod t285 8192), .int .u8 (rd l0 8), .int .u8 (rd l0 9), .int .u32 0, .int .u32 0, .slice none 0 0, .slice none 0 0]) ?_ 7 _ rfl; (with_reducible repeat (first | refine blk_drewN ?_ _ | refine blk_drew ?_ | refine blk_alloc ?_ _)); refine blk_put (cs := #[.int .u8 (rd l0 1), .int .u16 (IntKind.u16.wrap (t279)), .bool ((((Int.tdiv (rd l0 6) 64) % 256) % 2) == 1), .bool ((((Int.tdiv (rd l0 6) 32) % 256) % 2) == 1), .int .i64 (Int.tmod t285 8192), .int .u8 (rd l0 8), .int .u8 0, .int .u32 0, .int .u32 0, .slice none 0 0, .slice none 0 0]) ?_ 6 _ rfl; (with_reducible repeat (first | refine blk_drewN ?_ _ | refine blk_drew ?_ | refine blk_alloc ?_ _)); refine blk_put (cs := #[.int .u8 (rd l0 1), .int .u16 (IntKind.u16.wrap (t279)), .bool ((((Int.tdiv (rd l0 6) 64) % 256) % 2) == 1), .bool ((((Int.tdiv (rd l0 6) 32) % 256) % 2) == 1), .int .i64 (Int.tmod t285 8192), .int .u8 0, .int .u8 0, .int .u32 0, .int .u32 0, .slice none 0 0, .slice none 0 0]) ?_ 5 _ rfl; (with_reducible repeat (first | refine blk_drewN ?_ _ | refine blk_drew ?_ | refine blk_alloc ?_ _)); refine blk_put (cs := #[.int .u8 (rd l0 1), .int .u16 (IntKind.u16.wrap (t279)), .bool ((((Int.tdiv (rd l0 6) 64) % 256) % 2) == 1), .bool ((((Int.tdiv (rd l0 6) 32) % 256) % 2) == 1), .int .i64 0, .int .u8 0, .int .u8 0, .int .u32 0, .int .u32 0, .slice none 0 0, .slice none 0 0]) ?_ 4 _ rfl; (with_reducible repeat (first | refine blk_drewN ?_ _ | refine blk_drew ?_ | refine blk_alloc ?_ _)); refine blk_put (cs := #[.int .u8 (rd l0 1), .int .u16 (IntKind.u16.wrap (t279)), .bool ((((Int.tdiv (rd l0 6) 64) % 256) % 2) == 1), .bool false, .int .i64 0, .int .u8 0, .int .u8 0, .int .u32 0, .int .u32 0, .slice none 0 0, .slice none 0 0]) ?_ 3 _ rfl; (with_reducible repeat (first | refine blk_drewN ?_ _ | refine blk_drew ?_ | refine blk_alloc ?_ _)); refine blk_put (cs := #[.int .u8 (rd l0 1), .int .u16 (IntKind.u16.wrap (t279)), .bool false, .bool false, .int .i64 0, .int .u8 0, .int .u8 0, .int .u32 0, .int .u32 0, .slice none 0 0, .slice none 0 0]) ?_ 2 _ rfl; (with_reducible repeat (first | refine blk_drewN ?_ _ | refine blk_drew ?_ | refine blk_alloc ?_ _)); refine blk_put (cs := #[.int .u8 (rd l0 1), .int .u16 0, .bool false, .bool false, .int .i64 0, .int .u8 0, .int .u8 0, .int .u32 0, .int .u32 0, .slice none 0 0, .slice none 0 0]) ?_ 1 _ rfl; (with_reducible repeat (first | refine blk_drewN ?_ _ | refine blk_drew ?_ | refine blk_alloc ?_ _)); refine blk_put (cs := #[.int .u8 0, .int .u16 0, .bool false, .bool false, .int .i64 0, .int .u8 0, .int .u8 0, .int .u32 0, .int .u32 0, .slice none 0 0, .slice none 0 0]) ?_ 0 _ rfl; (with_reducible repeat (first | refine blk_drewN ?_ _ | refine blk_drew ?_ | refine blk_alloc ?_ _)); refine blk_far ?_ NB266_282.out _; (with_reducible repeat (first | refine blk_drewN ?_ _ | refine blk_drew ?_ | refine blk_alloc ?_ _)); refine blk_far ?_ NB266_282.out _; (with_reducible repeat (first | refine blk_drewN ?_ _ | refine blk_drew ?_ | refine blk_alloc ?_ _)); exact BK266.out))⟩; have n4_ : Aside0 (w80.heap[gb282]? = some (.cells #[.int .u8 (rd l0 1), .int .u16 (IntKind.u16.wrap (t279)), .bool ((((Int.tdiv (rd l0 6) 64) % 256) % 2) == 1), .bool ((((Int.tdiv (rd l0 6) 32) % 256) % 2) == 1), .int .i64 (Int.tmod t285 8192), .int .u8 (rd l0 8), .int .u8 (rd l0 9), .int .u32 ((wrap64 ((wrap64 (65536 * t286)) + t287)) % 4294967296), .int .u32 ((wrap64 ((wrap64 (65536 * t288)) + t289)) % 4294967296), .slice A74 y290.length c74, .slice A75 y295.length c75] 37 (0, 0))) := ⟨(by rw [hw]; exact (by (with_reducible repeat (first | refine blk_drewN ?_ _ | refine blk_drew ?_ | refine blk_alloc ?_ _)); refine blk_far ?_ NB282_266.out _; (with_reducible repeat (first | refine blk_drewN ?_ _ | refine blk_drew ?_ | refine blk_alloc ?_ _)); refine blk_far ?_ NB282_266.out _; (with_reducible repeat (first | refine blk_drewN ?_ _ | refine blk_drew ?_ | refine blk_alloc ?_ _)); refine blk_far ?_ NB282_266.out _; (with_reducible repeat (first | refine blk_drewN ?_ _ | refine blk_drew ?_ | refine blk_alloc ?_ _)); refine blk_far ?_ NB282_266.out _; (with_reducible repeat (first | refine blk_drewN ?_ _ | refine blk_drew ?_ | refine blk_alloc ?_ _)); refine blk_far ?_ NB282_266.out _; (with_reducible repeat (first | refine blk_drewN ?_ _ | refine blk_drew ?_ | refine blk_alloc ?_ _)); refine blk_far ?_ NB282_266.out _; (with_reducible repeat (first | refine blk_drewN ?_ _ | refine blk_drew ?_ | refine blk_alloc ?_ _)); refine blk_far ?_ NB282_266.out _; (with_reducible repeat (first | refine blk_drewN ?_ _ | refine blk_drew ?_ | refine blk_alloc ?_ _)); refine blk_far ?_ NB282_266.out _; (with_reducible repeat (first | refine blk_drewN ?_ _ | refine blk_drew ?_ | refine blk_alloc ?_ _)); refine blk_far ?_ NB282_266.out _; (with_reducible repeat (first | refine blk_drewN ?_ _ | refine blk_drew ?_ | refine blk_alloc ?_ _)); refine blk_far ?_ NB282_266.out _; (with_reducible repeat (first | refine blk_drewN ?_ _ | refine blk_drew ?_ | refine blk_alloc ?_ _)); refine blk_far ?_ NB282_266.out _; (with_reducible repeat (first | refine blk_drewN ?_ _ | refine blk_drew ?_ | refine blk_alloc ?_ _)); refine blk_put (cs := #[.int .u8 (rd l0 1), .int .u16 (IntKind.u16.wrap (t279)), .bool ((((Int.tdiv (rd l0 6) 64) % 256) % 2) == 1), .bool ((((Int.tdiv (rd l0 6) 32) % 256) % 2) == 1), .int .i64 (Int.tmod t285 8192), .int .u8 (rd l0 8), .int .u8 (rd l0 9), .int .u32 ((wrap64 ((wrap64 (65536 * t286)) + t287)) % 4294967296), .int .u32 ((wrap64 ((wrap64 (65536 * t288)) + t289)) % 4294967296), .slice A74 y290.length c74, .slice none 0 0]) ?_ 10 _ rfl; (with_reducible repeat (first | refine blk_drewN ?_ _ | refine blk_drew ?_ | refine blk_alloc ?_ _)); refine blk_put (cs := #[.int .u8 (rd l0 1), .int .u16 (IntKind.u16.wrap (t279)), .bool ((((Int.tdiv (rd l0 6) 64) % 256) % 2) == 1), .bool ((((Int.tdiv (rd l0 6) 32) % 256) % 2) == 1), .int .i64 (Int.tmod t285 8192), .int .u8 (rd l0 8), .int .u8 (rd l0 9), .int .u32 ((wrap64 ((wrap64 (65536 * t286)) + t287)) % 4294967296), .int .u32 ((wrap64 ((wrap64 (65536 * t288)) + t289)) % 4294967296), .slice none 0 0, .slice none 0 0]) ?_ 9 _ rfl; (with_reducible repeat (first | refine blk_drewN ?_ _ | refine blk_drew ?_ | refine blk_alloc ?_ _)); exact BK282.out))⟩; have n5_ : Aside0 (Below w.heap.size w w80) := ⟨(by rw [hw]; exact (by repeat (first | (with_reducible first | exact HB.out | apply below_alloc | apply pw_below_drewN | apply below_drew1 | refine below_set ?_ GE266.out | refine below_set ?_ GE282.out) | exact HB.out)))⟩; clear hw; clear HO_0; clear HO294; clear HO299; clear BK266; clear BK282; clear HB; have HO_0 := n0_; have HO294 := n1_; have HO299 := n2_; have BK266 := n3_; have BK282 := n4_; have HB := n5_; clear n0_ n1_ n2_ n3_ n4_ n5_))
                       refine bodyPost_ret (results_ct rfl _ _ gb266 37 #[.int .u8 (rd l0 1), .int .u16 (IntKind.u16.wrap (t279)), .bool ((((Int.tdiv (rd l0 6) 64) % 256) % 2) == 1), .bool ((((Int.tdiv (rd l0 6) 32) % 256) % 2) == 1), .int .i64 (Int.tmod t285 8192), .int .u8 (rd l0 8), .int .u8 (rd l0 9), .int .u32 ((wrap64 ((wrap64 (65536 * t286)) + t287)) % 4294967296), .int .u32 ((wrap64 ((wrap64 (65536 * t288)) + t289)) % 4294967296), .slice A74 y290.length c74, .slice A75 y295.length c75] (0, 0) _ rfl (by (with_reducible repeat (first | refine blk_drewN ?_ _ | refine blk_drew ?_ | refine blk_alloc ?_ _)); exact BK266.out) Try.underlying37 rfl (by kernel_rfl)) rfl ?_
                       exact ⟨_, _, by first | rfl | (simp [errW_none, errW_some] <;> rfl) | (simp only [← hji17]; first | rfl | (simp [errW_none, errW_some] <;> rfl)) | (simp [*, errW_none, errW_some] <;> rfl), by (with_reducible repeat (first | apply Kd.V_alloc | apply Kd.V_drewN | apply Kd.V_drew)); exact Kd.V_mono HO294.out (fun _ hk => hk.1), by (with_reducible repeat (first | apply Kd.V_alloc | apply Kd.V_drewN | apply Kd.V_drew)); exact Kd.V_mono HO299.out (fun _ hk => hk.1), by repeat (first | (with_reducible first | exact HB.out | apply below_alloc | apply pw_below_drewN | apply below_drew1 | refine below_set ?_ GE266.out | refine below_set ?_ GE282.out) | exact HB.out)⟩
                      ·
                       rw [if_neg c47] at H
                       exact absurd H (by simp)
                     ·
                      rw [if_neg c46] at H
                      exact absurd H (by simp)
                    ·
                     rw [if_neg c45] at H
                     exact absurd H (by simp)
                   ·
                    rw [if_neg c44] at H
                    exact absurd H (by simp)
                  ·
                   rw [if_neg c43] at H
                   exact absurd H (by simp)
                 ·
                  rw [if_neg c37] at H
                  exact absurd H (by simp)
                ·
                 rw [if_neg c36] at H
                 exact absurd H (by simp)
               ·
                rw [if_neg c35] at H
                exact absurd H (by simp)
              ·
               rw [if_neg c33] at H
               exact absurd H (by simp)
         ·
          rw [if_neg c21] at H
          have c21b0 : (t275 == 65535) = false := beq_eq_false_iff_ne.mpr c21
          have c21b1 : (t275 != 65535) = true := bne_iff_ne.mpr c21
          simp only [Option.some.injEq, Prod.mk.injEq] at H
          obtain ⟨rfl, rfl, rfl, rfl, rfl, rfl, rfl, rfl, rfl, rfl, rfl, rfl⟩ := H
          have p269 : 0 ≤ (0 : Int) := (by omega)
          have q269 : 0 < (l0.length : Int) := of_decide_eq_true (by first | (with_reducible assumption) | assumption)
          obtain ⟨ad269, e269, hx269_0⟩ := Kd.at_int (Kd.V_reads' HO_0.out).2.2 0 p269 q269
          cases e269
          have qi269 : (0 < l0.length) = True := eq_true (by omega)
          (try rw [show ((0 : Int)).toNat = 0 from rfl] at hx269_0)
          (try rw [Addr.add_zero'] at hx269_0)
          replace p269 := eq_true p269
          replace q269 := eq_true q269
          have q81 : ((ji17) : Int) ≤ ((l0.length : Int) : Int) := of_decide_eq_true (by first | (with_reducible assumption) | assumption)
          obtain ⟨i081, hi081, _, hsz81, _⟩ := info_parts info5
          have hroom81 : l0.length ≤ c0 := (Kd.V_reads' HO_0.out).2.1
          have hC81 : Kd.F (Kd.int .u8) _ _ (some ad269) l0.length l0 := (Kd.V_at (base := w.heap.size) HO_0.out).2.2
          have hcut81 := cut_to (P := Try.prog) 23 5 .i64 Try.underlying23 hi081 (some ad269) l0.length c0 (ji17) (of_decide_eq_true (by first | (with_reducible assumption) | assumption)) q81 hroom81
          have hr81 := Kd.F_take (m := ((ji17) : Int).toNat) hC81 (by omega)
          have hy81 : y270.length = ((ji17) : Int).toNat := (by rw [Ny270.out, List.length_take]; omega)
          rw [← Ny270.out] at hr81
          rw [← hy81] at hcut81
          have HO274 := Aside0.mk (show Kd.V (Kd.int .u8) 5 _ w.heap.size _ (.slice (some ad269) y270.length c0) y270 from Kd.V_mk (by omega) hr81)
          have HC274 := Aside0.mk (show y270.length ≤ c0 from by omega)
          clear hr81 hC81 hroom81 hi081 hsz81
          have KY81 := Aside0.mk hy81
          clear hy81
          replace q81 := eq_true q81
          go_wp2_with (first | ((with_reducible refine gate_callee (f := 49) rfl ?_); refine goesL_ (some 36) rfl rfl Try.func49 (by kernel_rfl) rfl #[.slice (some ad269) y270.length c0] rfl (by (try simp only [List.map_toArray, List.map_cons, List.map_nil]); first | done | rfl | (simp only [List.length_drop, List.length_take]; rfl) | (go_simp; done) | (go_simp; omega)) ?_; (with_reducible refine (towroperef02_Sum.calls kj5 _ _ y270 t275 _ ?side1 ?side2 A20.out).mono ?_); (case side1 => repeat (first | exact (Kd.V_reads' HO274.out).2.2 | (with_reducible refine Kd.C_alloc ?_ _) | (with_reducible refine Kd.C_drewN ?_ _) | (with_reducible refine Kd.C_drew ?_))); (case side2 => exact (Kd.V_reads' HO274.out).2.1); rintro e w' ⟨rfl, ⟨nd, rfl⟩⟩; refine ⟨_, rfl, ?_⟩; (try (rw [drewN_self wc]; generalize hq_ : World.drewN wc _ = wc; have n0_ : Aside0 (Kd.V (Kd.int .u8) 5 wc w.heap.size (fun k_ => (P0_ k_ ∨ w.heap.size ≤ k_) ∧ k_ ≠ gb266) (.slice (some ad269) y270.length c0) y270) := ⟨by rw [← hq_]; exact (by (with_reducible repeat (first | apply Kd.V_alloc | apply Kd.V_drewN | apply Kd.V_drew)); exact HO274.out)⟩; have n1_ : Aside0 (Kd.V (Kd.int .u8) 5 wc w.heap.size (fun k_ => (P0_ k_ ∨ w.heap.size ≤ k_) ∧ k_ ≠ gb266) (.slice (some ad269) l0.length c0) l0) := ⟨by rw [← hq_]; exact (by (with_reducible repeat (first | apply Kd.V_alloc | apply Kd.V_drewN | apply Kd.V_drew)); exact HO_0.out)⟩; have n2_ : Aside0 (wc.heap[gb266]? = some (.cells #[.int .u8 0, .int .u16 0, .bool false, .bool false, .int .i64 0, .int .u8 0, .int .u8 0, .int .u32 0, .int .u32 0, .slice none 0 0, .slice none 0 0] 37 (0, 0))) := ⟨by rw [← hq_]; exact (by (with_reducible repeat (first | refine blk_drewN ?_ _ | refine blk_drew ?_ | refine blk_alloc ?_ _)); exact BK266.out)⟩; have n3_ : Aside0 (Below w.heap.size w wc) := ⟨by rw [← hq_]; exact (by repeat (first | (with_reducible first | exact HB.out | apply below_alloc | apply pw_below_drewN | apply below_drew1 | refine below_set ?_ GE266.out) | exact HB.out))⟩; clear HO274 HO_0 BK266 HB hq_; have HO274 := n0_; have HO_0 := n1_; have BK266 := n2_; have HB := n3_; clear n0_ n1_ n2_ n3_)); have hcz82_0 : wc.cell? ⟨gb266, 0, none⟩ = some (.int .u8 0) := (blk_cell BK266.out 0).trans rfl; have hcz82_1 : wc.cell? ⟨gb266, 1, none⟩ = some (.int .u16 0) := (blk_cell BK266.out 1).trans rfl; have hcz82_2 : wc.cell? ⟨gb266, 2, none⟩ = some (.bool false) := (blk_cell BK266.out 2).trans rfl; have hcz82_3 : wc.cell? ⟨gb266, 3, none⟩ = some (.bool false) := (blk_cell BK266.out 3).trans rfl; have hcz82_4 : wc.cell? ⟨gb266, 4, none⟩ = some (.int .i64 0) := (blk_cell BK266.out 4).trans rfl; have hcz82_5 : wc.cell? ⟨gb266, 5, none⟩ = some (.int .u8 0) := (blk_cell BK266.out 5).trans rfl; have hcz82_6 : wc.cell? ⟨gb266, 6, none⟩ = some (.int .u8 0) := (blk_cell BK266.out 6).trans rfl; have hcz82_7 : wc.cell? ⟨gb266, 7, none⟩ = some (.int .u32 0) := (blk_cell BK266.out 7).trans rfl; have hcz82_8 : wc.cell? ⟨gb266, 8, none⟩ = some (.int .u32 0) := (blk_cell BK266.out 8).trans rfl; have hcz82_9 : wc.cell? ⟨gb266, 9, none⟩ = some (.slice none 0 0) := (blk_cell BK266.out 9).trans rfl; have hcz82_10 : wc.cell? ⟨gb266, 10, none⟩ = some (.slice none 0 0) := (blk_cell BK266.out 10).trans rfl; have hfz82_0 := blk_frozen BK266.out 0; have hfz82_1 := blk_frozen BK266.out 1; have hfz82_2 := blk_frozen BK266.out 2; have hfz82_3 := blk_frozen BK266.out 3; have hfz82_4 := blk_frozen BK266.out 4; have hfz82_5 := blk_frozen BK266.out 5; have hfz82_6 := blk_frozen BK266.out 6; have hfz82_7 := blk_frozen BK266.out 7; have hfz82_8 := blk_frozen BK266.out 8; have hfz82_9 := blk_frozen BK266.out 9; have hfz82_10 := blk_frozen BK266.out 10) | ((with_reducible refine gate_store (t := 37) (p := 2) rfl ?_); refine store_event (t := 37) (p := 2) (v := ?vo_w83) (w1 := (((((((((((wc.setCell ⟨gb266, 0, none⟩ (.int .u8 0)).setCell ⟨gb266, 1, none⟩ (.int .u16 0)).setCell ⟨gb266, 2, none⟩ (.bool false)).setCell ⟨gb266, 3, none⟩ (.bool false)).setCell ⟨gb266, 4, none⟩ (.int .i64 0)).setCell ⟨gb266, 5, none⟩ (.int .u8 0)).setCell ⟨gb266, 6, none⟩ (.int .u8 0)).setCell ⟨gb266, 7, none⟩ (.int .u32 0)).setCell ⟨gb266, 8, none⟩ (.int .u32 0)).setCell ⟨gb266, 9, none⟩ (.slice none 0 0)).setCell ⟨gb266, 10, none⟩ (.slice none 0 0))) ?hg ?ho ?hn ?hr ?_; (case ho => rfl); (case hg => rfl); (case hn => rfl); (case hr => first | (go_simp; done) | (go_simp; rfl)); intro w83 hw; have n0_ : Aside0 (Kd.V (Kd.int .u8) 5 w83 w.heap.size (fun k_ => (P0_ k_ ∨ w.heap.size ≤ k_) ∧ k_ ≠ gb266) (.slice (some ad269) l0.length c0) l0) := ⟨(by rw [hw]; exact (by (with_reducible repeat (first | apply Kd.V_alloc | apply Kd.V_drewN | apply Kd.V_drew)); exact Kd.V_mono (Kd.V_far (p := ⟨gb266, 10, none⟩) (Kd.V_far (p := ⟨gb266, 9, none⟩) (Kd.V_far (p := ⟨gb266, 8, none⟩) (Kd.V_far (p := ⟨gb266, 7, none⟩) (Kd.V_far (p := ⟨gb266, 6, none⟩) (Kd.V_far (p := ⟨gb266, 5, none⟩) (Kd.V_far (p := ⟨gb266, 4, none⟩) (Kd.V_far (p := ⟨gb266, 3, none⟩) (Kd.V_far (p := ⟨gb266, 2, none⟩) (Kd.V_far (p := ⟨gb266, 1, none⟩) (Kd.V_far (p := ⟨gb266, 0, none⟩) (Kd.V_mono HO_0.out (fun k_ hk => (⟨hk, hk.2⟩ : _ ∧ k_ ≠ gb266))) (fun _ hk => hk.2) (.int .u8 0)) (fun _ hk => hk.2) (.int .u16 0)) (fun _ hk => hk.2) (.bool false)) (fun _ hk => hk.2) (.bool false)) (fun _ hk => hk.2) (.int .i64 0)) (fun _ hk => hk.2) (.int .u8 0)) (fun _ hk => hk.2) (.int .u8 0)) (fun _ hk => hk.2) (.int .u32 0)) (fun _ hk => hk.2) (.int .u32 0)) (fun _ hk => hk.2) (.slice none 0 0)) (fun _ hk => hk.2) (.slice none 0 0)) (fun _ hk => ⟨hk.1.1, hk.1.2⟩)))⟩; have n1_ : Aside0 (Kd.V (Kd.int .u8) 5 w83 w.heap.size (fun k_ => (P0_ k_ ∨ w.heap.size ≤ k_) ∧ k_ ≠ gb266) (.slice (some ad269) y270.length c0) y270) := ⟨(by rw [hw]; exact (by (with_reducible repeat (first | apply Kd.V_alloc | apply Kd.V_drewN | apply Kd.V_drew)); exact Kd.V_mono (Kd.V_far (p := ⟨gb266, 10, none⟩) (Kd.V_far (p := ⟨gb266, 9, none⟩) (Kd.V_far (p := ⟨gb266, 8, none⟩) (Kd.V_far (p := ⟨gb266, 7, none⟩) (Kd.V_far (p := ⟨gb266, 6, none⟩) (Kd.V_far (p := ⟨gb266, 5, none⟩) (Kd.V_far (p := ⟨gb266, 4, none⟩) (Kd.V_far (p := ⟨gb266, 3, none⟩) (Kd.V_far (p := ⟨gb266, 2, none⟩) (Kd.V_far (p := ⟨gb266, 1, none⟩) (Kd.V_far (p := ⟨gb266, 0, none⟩) (Kd.V_mono HO274.out (fun k_ hk => (⟨hk, hk.2⟩ : _ ∧ k_ ≠ gb266))) (fun _ hk => hk.2) (.int .u8 0)) (fun _ hk => hk.2) (.int .u16 0)) (fun _ hk => hk.2) (.bool false)) (fun _ hk => hk.2) (.bool false)) (fun _ hk => hk.2) (.int .i64 0)) (fun _ hk => hk.2) (.int .u8 0)) (fun _ hk => hk.2) (.int .u8 0)) (fun _ hk => hk.2) (.int .u32 0)) (fun _ hk => hk.2) (.int .u32 0)) (fun _ hk => hk.2) (.slice none 0 0)) (fun _ hk => hk.2) (.slice none 0 0)) (fun _ hk => ⟨hk.1.1, hk.1.2⟩)))⟩; have n2_ : Aside0 (w83.heap[gb266]? = some (.cells #[.int .u8 0, .int .u16 0, .bool false, .bool false, .int .i64 0, .int .u8 0, .int .u8 0, .int .u32 0, .int .u32 0, .slice none 0 0, .slice none 0 0] 37 (0, 0))) := ⟨(by rw [hw]; exact (by (with_reducible repeat (first | refine blk_drewN ?_ _ | refine blk_drew ?_ | refine blk_alloc ?_ _)); refine blk_put (cs := #[.int .u8 0, .int .u16 0, .bool false, .bool false, .int .i64 0, .int .u8 0, .int .u8 0, .int .u32 0, .int .u32 0, .slice none 0 0, .slice none 0 0]) ?_ 10 _ rfl; (with_reducible repeat (first | refine blk_drewN ?_ _ | refine blk_drew ?_ | refine blk_alloc ?_ _)); refine blk_put (cs := #[.int .u8 0, .int .u16 0, .bool false, .bool false, .int .i64 0, .int .u8 0, .int .u8 0, .int .u32 0, .int .u32 0, .slice none 0 0, .slice none 0 0]) ?_ 9 _ rfl; (with_reducible repeat (first | refine blk_drewN ?_ _ | refine blk_drew ?_ | refine blk_alloc ?_ _)); refine blk_put (cs := #[.int .u8 0, .int .u16 0, .bool false, .bool false, .int .i64 0, .int .u8 0, .int .u8 0, .int .u32 0, .int .u32 0, .slice none 0 0, .slice none 0 0]) ?_ 8 _ rfl; (with_reducible repeat (first | refine blk_drewN ?_ _ | refine blk_drew ?_ | refine blk_alloc ?_ _)); refine blk_put (cs := #[.int .u8 0, .int .u16 0, .bool false, .bool false, .int .i64 0, .int .u8 0, .int .u8 0, .int .u32 0, .int .u32 0, .slice none 0 0, .slice none 0 0]) ?_ 7 _ rfl; (with_reducible repeat (first | refine blk_drewN ?_ _ | refine blk_drew ?_ | refine blk_alloc ?_ _)); refine blk_put (cs := #[.int .u8 0, .int .u16 0, .bool false, .bool false, .int .i64 0, .int .u8 0, .int .u8 0, .int .u32 0, .int .u32 0, .slice none 0 0, .slice none 0 0]) ?_ 6 _ rfl; (with_reducible repeat (first | refine blk_drewN ?_ _ | refine blk_drew ?_ | refine blk_alloc ?_ _)); refine blk_put (cs := #[.int .u8 0, .int .u16 0, .bool false, .bool false, .int .i64 0, .int .u8 0, .int .u8 0, .int .u32 0, .int .u32 0, .slice none 0 0, .slice none 0 0]) ?_ 5 _ rfl; (with_reducible repeat (first | refine blk_drewN ?_ _ | refine blk_drew ?_ | refine blk_alloc ?_ _)); refine blk_put (cs := #[.int .u8 0, .int .u16 0, .bool false, .bool false, .int .i64 0, .int .u8 0, .int .u8 0, .int .u32 0, .int .u32 0, .slice none 0 0, .slice none 0 0]) ?_ 4 _ rfl; (with_reducible repeat (first | refine blk_drewN ?_ _ | refine blk_drew ?_ | refine blk_alloc ?_ _)); refine blk_put (cs := #[.int .u8 0, .int .u16 0, .bool false, .bool false, .int .i64 0, .int .u8 0, .int .u8 0, .int .u32 0, .int .u32 0, .slice none 0 0, .slice none 0 0]) ?_ 3 _ rfl; (with_reducible repeat (first | refine blk_drewN ?_ _ | refine blk_drew ?_ | refine blk_alloc ?_ _)); refine blk_put (cs := #[.int .u8 0, .int .u16 0, .bool false, .bool false, .int .i64 0, .int .u8 0, .int .u8 0, .int .u32 0, .int .u32 0, .slice none 0 0, .slice none 0 0]) ?_ 2 _ rfl; (with_reducible repeat (first | refine blk_drewN ?_ _ | refine blk_drew ?_ | refine blk_alloc ?_ _)); refine blk_put (cs := #[.int .u8 0, .int .u16 0, .bool false, .bool false, .int .i64 0, .int .u8 0, .int .u8 0, .int .u32 0, .int .u32 0, .slice none 0 0, .slice none 0 0]) ?_ 1 _ rfl; (with_reducible repeat (first | refine blk_drewN ?_ _ | refine blk_drew ?_ | refine blk_alloc ?_ _)); refine blk_put (cs := #[.int .u8 0, .int .u16 0, .bool false, .bool false, .int .i64 0, .int .u8 0, .int .u8 0, .int .u32 0, .int .u32 0, .slice none 0 0, .slice none 0 0]) ?_ 0 _ rfl; (with_reducible repeat (first | refine blk_drewN ?_ _ | refine blk_drew ?_ | refine blk_alloc ?_ _)); exact BK266.out))⟩; have n3_ : Aside0 (Below w.heap.size w w83) := ⟨(by rw [hw]; exact (by repeat (first | (with_reducible first | exact HB.out | apply below_alloc | apply pw_below_drewN | apply below_drew1 | refine below_set ?_ GE266.out) | exact HB.out)))⟩; clear hw; clear HO_0; clear HO274; clear BK266; clear HB; have HO_0 := n0_; have HO274 := n1_; have BK266 := n2_; have HB := n3_; clear n0_ n1_ n2_ n3_))
          refine bodyPost_ret (results_ct rfl _ _ gb266 37 #[.int .u8 0, .int .u16 0, .bool false, .bool false, .int .i64 0, .int .u8 0, .int .u8 0, .int .u32 0, .int .u32 0, .slice none 0 0, .slice none 0 0] (0, 0) _ rfl (by (with_reducible repeat (first | refine blk_drewN ?_ _ | refine blk_drew ?_ | refine blk_alloc ?_ _)); exact BK266.out) Try.underlying37 rfl (by kernel_rfl)) rfl ?_
          exact ⟨_, _, by first | rfl | (simp [errW_none, errW_some] <;> rfl) | (simp only [← hji17]; first | rfl | (simp [errW_none, errW_some] <;> rfl)) | (simp [*, errW_none, errW_some] <;> rfl), Kd.V_nil _ _ _ _ _, Kd.V_nil _ _ _ _ _, by repeat (first | (with_reducible first | exact HB.out | apply below_alloc | apply pw_below_drewN | apply below_drew1 | refine below_set ?_ GE266.out) | exact HB.out)⟩
        ·
         rw [if_neg c19] at H
         exact absurd H (by simp)
       ·
        rw [if_neg c18] at H
        exact absurd H (by simp)
     ·
      rw [if_neg c13] at H
      exact absurd H (by simp)

end Go.Proofs.Ytdphjljbdodonaa.PIp
