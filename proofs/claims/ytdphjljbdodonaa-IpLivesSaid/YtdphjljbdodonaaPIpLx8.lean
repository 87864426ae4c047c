-- Laid by a program of this session (wip/tools/mk.py) over the kit's print: functions, contracts, walks; not written by hand, not trusted: Lean checks it.
import Derived.Test.YtdphjljbdodonaaPIpLx0
import Derived.Test.YtdphjljbdodonaaPIpLx7
namespace Go.Proofs.Ytdphjljbdodonaa.PIpL
open Go.RowKit Go.Proofs.YtdphjljbdodonaaW.PrintWords Go.Proofs.YtdphjljbdodonaaW.PrintLast Go.Proofs.YtdphjljbdodonaaW.PrintMore
attribute [local go_sem] max2_int min2_int max_two min_two max_three min_three max_four min_four   -- for this text's walks alone
set_option linter.unusedVariables false
set_option linter.unusedSimpArgs false

/-! ### towroperef06_Get: function 37 -/
mutual
def towroperef06_Get.j0 : Nat → List Int → Bool → Option (Int × Int × Bool × Bool × Int × Int × Int × Int × Int × List Int × List Int × Int)
 | 0, _, _ => none
 | k + 1, x0, x20 => if x20 = true then (some (0, 0, false, false, 0, 0, 0, 0, 0, ([] : List Int), ([] : List Int), 3)) else (if 0 < (x0.length : Int) then (if (x0.length : Int) < (wrap64 (4 * (wrap64 ((wrap64 (rd x0 0)) - 64)))) then (some (0, 0, false, false, 0, 0, 0, 0, 0, ([] : List Int), ([] : List Int), 2)) else (if 0 ≤ (wrap64 (4 * (wrap64 ((wrap64 (rd x0 0)) - 64)))) then (if (wrap64 (4 * (wrap64 ((wrap64 (rd x0 0)) - 64)))) ≤ (x0.length : Int) then ((towroperef02_Sum.f k (x0.take ((wrap64 (4 * (wrap64 ((wrap64 (rd x0 0)) - 64)))) : Int).toNat)).bind fun t279 => (if t279 = 65535 then ((towroperef06_number.f x0 2).bind fun t280 => (if t280 < (wrap64 (4 * (wrap64 ((wrap64 (rd x0 0)) - 64)))) then (towroperef06_Get.j1 k x0 (wrap64 (4 * (wrap64 ((wrap64 (rd x0 0)) - 64)))) t280 true) else (if 6 < (x0.length : Int) then (towroperef06_Get.j1 k x0 (wrap64 (4 * (wrap64 ((wrap64 (rd x0 0)) - 64)))) t280 (decide ((rd x0 6) ≥ 128))) else (none)))) else (some (0, 0, false, false, 0, 0, 0, 0, 0, ([] : List Int), ([] : List Int), 4)))) else (none)) else (none))) else (none))
def towroperef06_Get.j1 : Nat → List Int → Int → Int → Bool → Option (Int × Int × Bool × Bool × Int × Int × Int × Int × Int × List Int × List Int × Int)
 | 0, _, _, _, _ => none
 | k + 1, x0, x4, x5, x49 => if x49 = true then (some (0, 0, false, false, 0, 0, 0, 0, 0, ([] : List Int), ([] : List Int), 3)) else (if (x0.length : Int) < x5 then (some (0, 0, false, false, 0, 0, 0, 0, 0, ([] : List Int), ([] : List Int), 2)) else (if 1 < (x0.length : Int) then ((towroperef06_number.f x0 4).bind fun t283 => (if 8 < (x0.length : Int) then (if 9 < (x0.length : Int) then (if 6 < (x0.length : Int) then ((towroperef06_number.f x0 6).bind fun t289 => ((towroperef06_number.f x0 12).bind fun t290 => ((towroperef06_number.f x0 14).bind fun t291 => ((towroperef06_number.f x0 16).bind fun t292 => ((towroperef06_number.f x0 18).bind fun t293 => (if 20 ≤ x4 then (if x4 ≤ (x0.length : Int) then (if 0 ≤ x4 then (if x4 ≤ x5 then (if x5 ≤ (x0.length : Int) then (some (rd x0 1, IntKind.u16.wrap (t283), ((((Int.tdiv (rd x0 6) 64) % 256) % 2) == 1), ((((Int.tdiv (rd x0 6) 32) % 256) % 2) == 1), Int.tmod t289 8192, rd x0 8, rd x0 9, (wrap64 ((wrap64 (65536 * t290)) + t291)) % 4294967296, (wrap64 ((wrap64 (65536 * t292)) + t293)) % 4294967296, ((x0.take (x4 : Int).toNat).drop 20), ((x0.take (x5 : Int).toNat).drop (x4 : Int).toNat), 0)) else (none)) else (none)) else (none)) else (none)) else (none))))))) else (none)) else (none)) else (none))) else (none)))
end
def towroperef06_Get.f (k : Nat) (l0 : List Int) : Option (Int × Int × Bool × Bool × Int × Int × Int × Int × Int × List Int × List Int × Int) := if (l0.length : Int) < 20 then (some (0, 0, false, false, 0, 0, 0, 0, 0, ([] : List Int), ([] : List Int), 2)) else (if 0 < (l0.length : Int) then (if (rd l0 0) < 69 then (towroperef06_Get.j0 k l0 true) else (towroperef06_Get.j0 k l0 (decide ((rd l0 0) > 79)))) else (none))
theorem towroperef06_Get.mono_l : ∀ k, (∀ y0 y1, LeO (towroperef06_Get.j0 k y0 y1) (towroperef06_Get.j0 (k + 1) y0 y1)) ∧ (∀ y0 y1 y2 y3, LeO (towroperef06_Get.j1 k y0 y1 y2 y3) (towroperef06_Get.j1 (k + 1) y0 y1 y2 y3))
 | 0 => ⟨fun _ _ r h => by simp [towroperef06_Get.j0] at h, fun _ _ _ _ r h => by simp [towroperef06_Get.j1] at h⟩
 | k + 1 => by
  obtain ⟨ih0, ih1⟩ := towroperef06_Get.mono_l k
  refine ⟨?_, ?_⟩
  ·
   intro y0 y1
   unfold towroperef06_Get.j0
   repeat' first
   | (with_reducible exact ih0 _ _)
   | (with_reducible exact ih1 _ _ _ _)
   | (with_reducible exact towroperef02_Sum.mono _ _)
   | (with_reducible exact LeO.refl _)
   | (with_reducible exact LeO.none _)
   | (with_reducible refine LeO.ite ?_ ?_)
   | (with_reducible refine LeO.bind ?_ (fun _ => ?_))
   | exact ih0 _ _
   | exact ih1 _ _ _ _
   | exact towroperef02_Sum.mono _ _
   | exact LeO.none _
   | refine LeO.ite ?_ ?_
   | refine LeO.bind ?_ (fun _ => ?_)
  ·
   intro y0 y1 y2 y3
   unfold towroperef06_Get.j1
   repeat' first
   | (with_reducible exact ih0 _ _)
   | (with_reducible exact ih1 _ _ _ _)
   | (with_reducible exact towroperef02_Sum.mono _ _)
   | (with_reducible exact LeO.refl _)
   | (with_reducible exact LeO.none _)
   | (with_reducible refine LeO.ite ?_ ?_)
   | (with_reducible refine LeO.bind ?_ (fun _ => ?_))
   | exact ih0 _ _
   | exact ih1 _ _ _ _
   | exact towroperef02_Sum.mono _ _
   | exact LeO.none _
   | refine LeO.ite ?_ ?_
   | refine LeO.bind ?_ (fun _ => ?_)
theorem towroperef06_Get.mono : ∀ a0 k, LeO (towroperef06_Get.f k a0) (towroperef06_Get.f (k + 1) a0) := by
 intro a0 k
 obtain ⟨ih0, ih1⟩ := towroperef06_Get.mono_l k
 unfold towroperef06_Get.f
 repeat' first
   | (with_reducible exact ih0 _ _)
   | (with_reducible exact ih1 _ _ _ _)
   | (with_reducible exact towroperef02_Sum.mono _ _)
   | (with_reducible exact LeO.refl _)
   | (with_reducible exact LeO.none _)
   | (with_reducible refine LeO.ite ?_ ?_)
   | (with_reducible refine LeO.bind ?_ (fun _ => ?_))
   | exact ih0 _ _
   | exact ih1 _ _ _ _
   | exact towroperef02_Sum.mono _ _
   | exact LeO.none _
   | refine LeO.ite ?_ ?_
   | refine LeO.bind ?_ (fun _ => ?_)
def towroperef06_Get.T15 : Bool × List (List Nat × List Nat) := (true, [([], []), ([0], [0]), ([1], [1]), ([], []), ([3], [3]), ([4], [4]), ([], []), ([6], [6]), ([7], [7]), ([], []), ([9], [9]), ([10], [10]), ([2, 5, 8, 11], [2, 5, 8, 11]), ([], []), ([13, 12, 4, 0, 1, 2, 3, 4, 5, 6, 7, 8, 9, 10, 11, 12, 13], [12, 13])])
def towroperef06_Get.B15 : List Nat := [0, 1, 3, 0, 8, 24, 0, 64, 192, 0, 512, 1536, 4095, 0, 16383]
theorem towroperef06_Get.tab15 : rtab .any (opsOf Try.f37 15) = towroperef06_Get.T15 := by kernel_rfl
theorem towroperef06_Get.bits15 : waitsOk towroperef06_Get.T15.2 towroperef06_Get.B15 = true := by kernel_rfl
def towroperef06_Get.T21 : Bool × List (List Nat × List Nat) := (true, [([], []), ([], []), ([0, 1], [0, 1]), ([], []), ([], []), ([], []), ([3, 4, 5], [3, 4, 5]), ([0, 1, 2], []), ([7, 2, 0, 1, 2], [2, 7]), ([0, 1, 2, 3, 4, 5, 6, 7, 8], []), ([9, 6, 8, 0, 1, 2, 3, 4, 5, 6, 7, 8], [6, 9])])
def towroperef06_Get.B21 : List Nat := [0, 0, 3, 0, 0, 0, 56, 7, 135, 511, 1023]
theorem towroperef06_Get.tab21 : rtab .any (opsOf Try.f37 21) = towroperef06_Get.T21 := by kernel_rfl
theorem towroperef06_Get.bits21 : waitsOk towroperef06_Get.T21.2 towroperef06_Get.B21 = true := by kernel_rfl
set_option maxHeartbeats 8000000 in
set_option maxRecDepth 100000 in
theorem towroperef06_Get.calls (k : Nat) (P0_ : Nat → Prop) (A0 : Option Addr) (c0 : Nat) (l0 : List Int) (r1 : Int) (r2 : Int) (r3 : Bool) (r4 : Bool) (r5 : Int) (r6 : Int) (r7 : Int) (r8 : Int) (r9 : Int) (r10 : List Int) (r11 : List Int) (r12 : Int) (w : World) (hs0 : Kd.V (Kd.int .u8) 5 w w.heap.size (fun k_ => P0_ k_) (.slice A0 l0.length c0) l0) (h : towroperef06_Get.f k l0 = some (r1, r2, r3, r4, r5, r6, r7, r8, r9, r10, r11, r12)) :
  Calls Try.prog 37 #[.slice A0 l0.length c0] w fun e w' => ∃ v9_ v10_ : Value, e = .returned (.tuple #[.agg #[.int .u8 r1, .int .u16 r2, .bool r3, .bool r4, .int .i64 r5, .int .u8 r6, .int .u8 r7, .int .u32 r8, .int .u32 r9, v9_, v10_], .int .i64 r12]) ∧ Kd.V (Kd.int .u8) 5 w' w.heap.size (fun k_ => (P0_ k_ ∨ w.heap.size ≤ k_)) v9_ r10 ∧ Kd.V (Kd.int .u8) 5 w' w.heap.size (fun k_ => (P0_ k_ ∨ w.heap.size ≤ k_)) v10_ r11 ∧ Below w.heap.size w w' := by
 have hu37 := Try.underlying37
 have HO0 := Aside0.mk (show Kd.V (Kd.int .u8) 5 w w.heap.size (fun k_ => (P0_ k_ ∨ w.heap.size ≤ k_)) (.slice A0 l0.length c0) l0 from Kd.V_mono hs0 (fun k_ hk => .inl hk))
 have HB := Aside0.mk (Below.refl w.heap.size w)
 have H : (if (l0.length : Int) < 20 then (some (0, 0, false, false, 0, 0, 0, 0, 0, ([] : List Int), ([] : List Int), 2)) else (if 0 < (l0.length : Int) then (if (rd l0 0) < 69 then (towroperef06_Get.j0 k l0 true) else (towroperef06_Get.j0 k l0 (decide ((rd l0 0) > 79)))) else (none))) = some (r1, r2, r3, r4, r5, r6, r7, r8, r9, r10, r11, r12) := h
 clear h
 by_cases c2 : (l0.length : Int) < 20
 ·
  rw [if_pos c2] at H
  have c2b0 : decide ((l0.length : Int) < 20) = true := decide_eq_true c2
  have c2b1 : decide (l0.length < 20) = true := decide_eq_true (by omega)
  clear c2
  simp only [Option.some.injEq, Prod.mk.injEq] at H
  obtain ⟨rfl, rfl, rfl, rfl, rfl, rfl, rfl, rfl, rfl, rfl, rfl, rfl⟩ := H
  go_enter Try.func37, Try.ntmps37
  go_wp2_with (first | ((with_reducible refine gate_dst (N := 2) rfl ?_); refine box_event ?hg (N := 2) ?hd (cs := #[.int .u8 0, .int .u16 0, .bool false, .bool false, .int .i64 0, .int .u8 0, .int .u8 0, .int .u32 0, .int .u32 0, .slice none 0 0, .slice none 0 0]) (t := 37) ?hr ?_; (case hd => rfl); (case hg => rfl); (case hr => first | (go_simp; done) | (go_simp; rfl)); intro gb270 hg w3 hbox hb; have n0_ := Aside0.mk (Kd.V_below (Kd.V_elderB (by (with_reducible repeat (first | apply Kd.V_alloc | apply Kd.V_drewN | apply Kd.V_drew)); exact HO0.out) gb270 (Nat.le_of_eq hg.symm)) hb); have n1_ := Aside0.mk (below_step (by repeat (first | (with_reducible first | exact HB.out | apply below_alloc | apply pw_below_drewN | apply below_drew1) | exact HB.out)) hb); have n2_ := Aside0.mk (hbox); have n3_ := Aside0.mk ((by rw [hg]; exact (below_size (by repeat (first | (with_reducible first | exact HB.out | apply below_alloc | apply pw_below_drewN | apply below_drew1) | exact HB.out))) : w.heap.size ≤ gb270)); have n4_ := Aside0.mk ((by rw [hg]; exact (below_size (by repeat (first | (with_reducible first | exact HB.out | apply below_alloc | apply pw_below_drewN | apply below_drew1) | exact HB.out))) : w.heap.size ≤ gb270)); clear HO0; clear HB; have HO0 := n0_; have HB := n1_; have BK270 := n2_; have GW270 := n3_; have GE270 := n4_; clear n0_ n1_ n2_ n3_ n4_; clear hb hbox hg; have hcz4 := blk_cell BK270.out; have hfz4 := blk_frozen BK270.out; have hfz4_10 := blk_frozen BK270.out 10) | ((with_reducible refine gate_store (t := 37) (p := 2) rfl ?_); refine store_event (t := 37) (p := 2) (v := ?vo_w5) (w1 := (((((((((((w3.setCell ⟨gb270, 0, none⟩ (.int .u8 0)).setCell ⟨gb270, 1, none⟩ (.int .u16 0)).setCell ⟨gb270, 2, none⟩ (.bool false)).setCell ⟨gb270, 3, none⟩ (.bool false)).setCell ⟨gb270, 4, none⟩ (.int .i64 0)).setCell ⟨gb270, 5, none⟩ (.int .u8 0)).setCell ⟨gb270, 6, none⟩ (.int .u8 0)).setCell ⟨gb270, 7, none⟩ (.int .u32 0)).setCell ⟨gb270, 8, none⟩ (.int .u32 0)).setCell ⟨gb270, 9, none⟩ (.slice none 0 0)).setCell ⟨gb270, 10, none⟩ (.slice none 0 0))) ?hg ?ho ?hn ?hr ?_; (case ho => rfl); (case hg => rfl); (case hn => rfl); (case hr => first | (go_simp; done) | (go_simp; rfl)); intro w5 hw; have n0_ : Aside0 (Kd.V (Kd.int .u8) 5 w5 w.heap.size (fun k_ => (P0_ k_ ∨ w.heap.size ≤ k_) ∧ k_ ≠ gb270) (.slice A0 l0.length c0) l0) := ⟨(by rw [hw]; exact (by (with_reducible repeat (first | apply Kd.V_alloc | apply Kd.V_drewN | apply Kd.V_drew)); exact Kd.V_mono (Kd.V_far (Kd.V_far (Kd.V_far (Kd.V_far (Kd.V_far (Kd.V_far (Kd.V_far (Kd.V_far (Kd.V_far (Kd.V_far (Kd.V_far (Kd.V_mono HO0.out (fun k_ hk => (⟨hk, hk.2⟩ : _ ∧ k_ ≠ gb270))) (fun _ hk => hk.2) _) (fun _ hk => hk.2) _) (fun _ hk => hk.2) _) (fun _ hk => hk.2) _) (fun _ hk => hk.2) _) (fun _ hk => hk.2) _) (fun _ hk => hk.2) _) (fun _ hk => hk.2) _) (fun _ hk => hk.2) _) (fun _ hk => hk.2) _) (fun _ hk => hk.2) _) (fun _ hk => ⟨hk.1.1, hk.1.2⟩)))⟩; have n1_ : Aside0 (w5.heap[gb270]? = some (.cells #[.int .u8 0, .int .u16 0, .bool false, .bool false, .int .i64 0, .int .u8 0, .int .u8 0, .int .u32 0, .int .u32 0, .slice none 0 0, .slice none 0 0] 37 (0, 0))) := ⟨(by rw [hw]; exact (by (with_reducible repeat (first | refine blk_drewN ?_ _ | refine blk_drew ?_ | refine blk_alloc ?_ _)); refine blk_put (cs := #[.int .u8 0, .int .u16 0, .bool false, .bool false, .int .i64 0, .int .u8 0, .int .u8 0, .int .u32 0, .int .u32 0, .slice none 0 0, .slice none 0 0]) ?_ 10 _ rfl; (with_reducible repeat (first | refine blk_drewN ?_ _ | refine blk_drew ?_ | refine blk_alloc ?_ _)); refine blk_put (cs := #[.int .u8 0, .int .u16 0, .bool false, .bool false, .int .i64 0, .int .u8 0, .int .u8 0, .int .u32 0, .int .u32 0, .slice none 0 0, .slice none 0 0]) ?_ 9 _ rfl; (with_reducible repeat (first | refine blk_drewN ?_ _ | refine blk_drew ?_ | refine blk_alloc ?_ _)); refine blk_put (cs := #[.int .u8 0, .int .u16 0, .bool false, .bool false, .int .i64 0, .int .u8 0, .int .u8 0, .int .u32 0, .int .u32 0, .slice none 0 0, .slice none 0 0]) ?_ 8 _ rfl; (with_reducible repeat (first | refine blk_drewN ?_ _ | refine blk_drew ?_ | refine blk_alloc ?_ _)); refine blk_put (cs := #[.int .u8 0, .int .u16 0, .bool false, .bool false, .int .i64 0, .int .u8 0, .int .u8 0, .int .u32 0, .int .u32 0, .slice none 0 0, .slice none 0 0]) ?_ 7 _ rfl; (with_reducible repeat (first | refine blk_drewN ?_ _ | refine blk_drew ?_ | refine blk_alloc ?_ _)); refine blk_put (cs := #[.int .u8 0, .int .u16 0, .bool false, .bool false, .int .i64 0, .int .u8 0, .int .u8 0, .int .u32 0, .int .u32 0, .slice none 0 0, .slice none 0 0]) ?_ 6 _ rfl; (with_reducible repeat (first | refine blk_drewN ?_ _ | refine blk_drew ?_ | refine blk_alloc ?_ _)); refine blk_put (cs := #[.int .u8 0, .int .u16 0, .bool false, .bool false, .int .i64 0, .int .u8 0, .int .u8 0, .int .u32 0, .int .u32 0, .slice none 0 0, .slice none 0 0]) ?_ 5 _ rfl; (with_reducible repeat (first | refine blk_drewN ?_ _ | refine blk_drew ?_ | refine blk_alloc ?_ _)); refine blk_put (cs := #[.int .u8 0, .int .u16 0, .bool false, .bool false, .int .i64 0, .int .u8 0, .int .u8 0, .int .u32 0, .int .u32 0, .slice none 0 0, .slice none 0 0]) ?_ 4 _ rfl; (with_reducible repeat (first | refine blk_drewN ?_ _ | refine blk_drew ?_ | refine blk_alloc ?_ _)); refine blk_put (cs := #[.int .u8 0, .int .u16 0, .bool false, .bool false, .int .i64 0, .int .u8 0, .int .u8 0, .int .u32 0, .int .u32 0, .slice none 0 0, .slice none 0 0]) ?_ 3 _ rfl; (with_reducible repeat (first | refine blk_drewN ?_ _ | refine blk_drew ?_ | refine blk_alloc ?_ _)); refine blk_put (cs := #[.int .u8 0, .int .u16 0, .bool false, .bool false, .int .i64 0, .int .u8 0, .int .u8 0, .int .u32 0, .int .u32 0, .slice none 0 0, .slice none 0 0]) ?_ 2 _ rfl; (with_reducible repeat (first | refine blk_drewN ?_ _ | refine blk_drew ?_ | refine blk_alloc ?_ _)); refine blk_put (cs := #[.int .u8 0, .int .u16 0, .bool false, .bool false, .int .i64 0, .int .u8 0, .int .u8 0, .int .u32 0, .int .u32 0, .slice none 0 0, .slice none 0 0]) ?_ 1 _ rfl; (with_reducible repeat (first | refine blk_drewN ?_ _ | refine blk_drew ?_ | refine blk_alloc ?_ _)); refine blk_put (cs := #[.int .u8 0, .int .u16 0, .bool false, .bool false, .int .i64 0, .int .u8 0, .int .u8 0, .int .u32 0, .int .u32 0, .slice none 0 0, .slice none 0 0]) ?_ 0 _ rfl; (with_reducible repeat (first | refine blk_drewN ?_ _ | refine blk_drew ?_ | refine blk_alloc ?_ _)); exact BK270.out))⟩; have n2_ : Aside0 (Below w.heap.size w w5) := ⟨(by rw [hw]; exact (by repeat (first | (with_reducible first | exact HB.out | apply below_alloc | apply pw_below_drewN | apply below_drew1 | refine below_set ?_ GE270.out) | exact HB.out)))⟩; clear hw; clear HO0; clear BK270; clear HB; have HO0 := n0_; have BK270 := n1_; have HB := n2_; clear n0_ n1_ n2_))
  refine bodyPost_ret (results_ct rfl _ _ gb270 37 #[.int .u8 0, .int .u16 0, .bool false, .bool false, .int .i64 0, .int .u8 0, .int .u8 0, .int .u32 0, .int .u32 0, .slice none 0 0, .slice none 0 0] (0, 0) _ rfl (by (with_reducible repeat (first | refine blk_drewN ?_ _ | refine blk_drew ?_ | refine blk_alloc ?_ _)); exact BK270.out) Try.underlying37 rfl (by kernel_rfl)) rfl ?_
  exact ⟨_, _, by first | rfl | (simp [errW_none, errW_some] <;> rfl) | (simp [*, errW_none, errW_some] <;> rfl), Kd.V_nil _ _ _ _ _, Kd.V_nil _ _ _ _ _, by repeat (first | (with_reducible first | exact HB.out | apply below_alloc | apply pw_below_drewN | apply below_drew1 | refine below_set ?_ GE270.out) | exact HB.out)⟩
 ·
  rw [if_neg c2] at H
  have c2b0 : decide ((l0.length : Int) < 20) = false := decide_eq_false c2
  have c2b1 : decide (l0.length < 20) = false := decide_eq_false (by omega)
  clear c2
  have HC6 := Aside0.mk H
  clear H
  go_enter Try.func37, Try.ntmps37
  go_upto_region 3 with (first | ((with_reducible refine gate_dst (N := 2) rfl ?_); refine box_event ?hg (N := 2) ?hd (cs := #[.int .u8 0, .int .u16 0, .bool false, .bool false, .int .i64 0, .int .u8 0, .int .u8 0, .int .u32 0, .int .u32 0, .slice none 0 0, .slice none 0 0]) (t := 37) ?hr ?_; (case hd => rfl); (case hg => rfl); (case hr => first | (go_simp; done) | (go_simp; rfl)); intro gb270 hg w7 hbox hb; have n0_ := Aside0.mk (Kd.V_below (Kd.V_elderB (by (with_reducible repeat (first | apply Kd.V_alloc | apply Kd.V_drewN | apply Kd.V_drew)); exact HO0.out) gb270 (Nat.le_of_eq hg.symm)) hb); have n1_ := Aside0.mk (below_step (by repeat (first | (with_reducible first | exact HB.out | apply below_alloc | apply pw_below_drewN | apply below_drew1) | exact HB.out)) hb); have n2_ := Aside0.mk (hbox); have n3_ := Aside0.mk ((by rw [hg]; exact (below_size (by repeat (first | (with_reducible first | exact HB.out | apply below_alloc | apply pw_below_drewN | apply below_drew1) | exact HB.out))) : w.heap.size ≤ gb270)); have n4_ := Aside0.mk ((by rw [hg]; exact (below_size (by repeat (first | (with_reducible first | exact HB.out | apply below_alloc | apply pw_below_drewN | apply below_drew1) | exact HB.out))) : w.heap.size ≤ gb270)); clear HO0; clear HB; have HO0 := n0_; have HB := n1_; have BK270 := n2_; have GW270 := n3_; have GE270 := n4_; clear n0_ n1_ n2_ n3_ n4_; clear hb hbox hg))
  (try simp only [Act.put, List.setIfInBounds_toArray, List.set_cons_zero, List.set_cons_succ])
  go_cut [20] (fun v20 wc => ∃ (kq : Nat) (x20_5 : Bool), v20 = .bool x20_5 ∧ Aside0 (towroperef06_Get.j0 kq l0 x20_5 = some (r1, r2, r3, r4, r5, r6, r7, r8, r9, r10, r11, r12)) ∧ Aside0 (kq ≤ k) ∧ Aside0 (Kd.V (Kd.int .u8) 5 wc w.heap.size (fun k_ => (P0_ k_ ∨ w.heap.size ≤ k_) ∧ k_ ≠ gb270) (.slice A0 l0.length c0) l0) ∧ Aside0 (wc.heap[gb270]? = some (.cells #[.int .u8 0, .int .u16 0, .bool false, .bool false, .int .i64 0, .int .u8 0, .int .u8 0, .int .u32 0, .int .u32 0, (.slice none 0 0), (.slice none 0 0)] 37 (0, 0))) ∧ Aside0 (Below w.heap.size w wc))
  case first =>
   have H := HC6.out
   clear HC6
   by_cases c8 : 0 < (l0.length : Int)
   ·
    rw [if_pos c8] at H
    have c8b0 : decide (0 < (l0.length : Int)) = true := decide_eq_true c8
    have c8b1 : decide (0 < l0.length) = true := decide_eq_true (by omega)
    clear c8
    (first | rw [c8b0] | (simp only [i64_w, i32_w]; rw [c8b0]) | skip)
    by_cases c9 : (rd l0 0) < 69
    ·
     rw [if_pos c9] at H
     have c9b0 : decide ((rd l0 0) < 69) = true := decide_eq_true c9
     clear c9
     have H' := Aside0.mk H
     clear H
     have p271 : 0 ≤ (0 : Int) := (by omega)
     have q271 : 0 < (l0.length : Int) := of_decide_eq_true (by first | (with_reducible assumption) | assumption)
     obtain ⟨ad271, e271, hx271_0⟩ := Kd.at_int (Kd.V_reads' HO0.out).2.2 0 p271 q271
     cases e271
     have qi271 : (0 < l0.length) = True := eq_true (by omega)
     (try rw [show ((0 : Int)).toNat = 0 from rfl] at hx271_0)
     (try rw [Addr.add_zero'] at hx271_0)
     replace p271 := eq_true p271
     replace q271 := eq_true q271
     go_wp2
     go_meet
     case rel => exact ⟨_, (true), (by first | rfl | (simp; done) | (simp [*]; done)), H', ⟨by first | omega | exact Nat.le_refl _⟩, ⟨by (with_reducible repeat (first | apply Kd.V_alloc | apply Kd.V_drewN | apply Kd.V_drew)); exact HO0.out⟩, ⟨by (with_reducible repeat (first | refine blk_drewN ?_ _ | refine blk_drew ?_ | refine blk_alloc ?_ _)); exact BK270.out⟩, ⟨by repeat (first | (with_reducible first | exact HB.out | apply below_alloc | apply pw_below_drewN | apply below_drew1 | refine below_set ?_ GE270.out) | exact HB.out)⟩⟩
    ·
     rw [if_neg c9] at H
     have c9b0 : decide ((rd l0 0) < 69) = false := decide_eq_false c9
     clear c9
     have H' := Aside0.mk H
     clear H
     have p271 : 0 ≤ (0 : Int) := (by omega)
     have q271 : 0 < (l0.length : Int) := of_decide_eq_true (by first | (with_reducible assumption) | assumption)
     obtain ⟨ad271, e271, hx271_0⟩ := Kd.at_int (Kd.V_reads' HO0.out).2.2 0 p271 q271
     cases e271
     have qi271 : (0 < l0.length) = True := eq_true (by omega)
     (try rw [show ((0 : Int)).toNat = 0 from rfl] at hx271_0)
     (try rw [Addr.add_zero'] at hx271_0)
     replace p271 := eq_true p271
     replace q271 := eq_true q271
     have p272 : 0 ≤ (0 : Int) := (by omega)
     have q272 : 0 < (l0.length : Int) := of_decide_eq_true (by first | (with_reducible assumption) | assumption)
     obtain ⟨ad272, e272, hx272_0⟩ := Kd.at_int (Kd.V_reads' HO0.out).2.2 0 p272 q272
     obtain rfl : ad271 = ad272 := (by injection e272)
     have qi272 : (0 < l0.length) = True := eq_true (by omega)
     (try rw [show ((0 : Int)).toNat = 0 from rfl] at hx272_0)
     (try rw [Addr.add_zero'] at hx272_0)
     replace p272 := eq_true p272
     replace q272 := eq_true q272
     go_wp2
     go_meet
     case rel => exact ⟨_, (decide ((rd l0 0) > 79)), (by first | rfl | (simp; done) | (simp [*]; done)), H', ⟨by first | omega | exact Nat.le_refl _⟩, ⟨by (with_reducible repeat (first | apply Kd.V_alloc | apply Kd.V_drewN | apply Kd.V_drew)); exact HO0.out⟩, ⟨by (with_reducible repeat (first | refine blk_drewN ?_ _ | refine blk_drew ?_ | refine blk_alloc ?_ _)); exact BK270.out⟩, ⟨by repeat (first | (with_reducible first | exact HB.out | apply below_alloc | apply pw_below_drewN | apply below_drew1 | refine below_set ?_ GE270.out) | exact HB.out)⟩⟩
   ·
    rw [if_neg c8] at H
    exact absurd H (by simp)
  case rest =>
   clear HC6
   try clear c2
   try clear c2b0
   try clear c2b1
   try clear p2
   try clear q2
   try clear hx2
   try clear qi2
   try clear c3
   try clear c8
   try clear c8b0
   try clear c8b1
   try clear c9
   try clear c9b0
   try clear hcz4
   try clear hfz4
   try clear hx271_0
   try clear hx272_0
   try clear p271
   try clear p272
   try clear q271
   try clear q272
   obtain ⟨kq, x20_5, rfl, HA, HJ5, HO_0, BK270, HB⟩ := hcut
   cases kq with
   | zero => exact absurd HA.out (by simp [towroperef06_Get.j0])
   | succ kj5 =>
    have H := HA.out
    clear HA
    simp only [towroperef06_Get.j0] at H
    by_cases c10 : x20_5 = true
    ·
     subst c10
     have H1 : (some (0, 0, false, false, 0, 0, 0, 0, 0, ([] : List Int), ([] : List Int), 3)) = some (r1, r2, r3, r4, r5, r6, r7, r8, r9, r10, r11, r12) := by rw [if_pos rfl] at H; exact H
     clear H
     have H := H1
     clear H1
     simp only [Option.some.injEq, Prod.mk.injEq] at H
     obtain ⟨rfl, rfl, rfl, rfl, rfl, rfl, rfl, rfl, rfl, rfl, rfl, rfl⟩ := H
     have hcz11 := blk_cell BK270.out
     have hfz11 := blk_frozen BK270.out
     go_wp2_with (first | ((with_reducible refine gate_store (t := 37) (p := 2) rfl ?_); refine store_event (t := 37) (p := 2) (v := ?vo_w12) (w1 := (((((((((((wc.setCell ⟨gb270, 0, none⟩ (.int .u8 0)).setCell ⟨gb270, 1, none⟩ (.int .u16 0)).setCell ⟨gb270, 2, none⟩ (.bool false)).setCell ⟨gb270, 3, none⟩ (.bool false)).setCell ⟨gb270, 4, none⟩ (.int .i64 0)).setCell ⟨gb270, 5, none⟩ (.int .u8 0)).setCell ⟨gb270, 6, none⟩ (.int .u8 0)).setCell ⟨gb270, 7, none⟩ (.int .u32 0)).setCell ⟨gb270, 8, none⟩ (.int .u32 0)).setCell ⟨gb270, 9, none⟩ (.slice none 0 0)).setCell ⟨gb270, 10, none⟩ (.slice none 0 0))) ?hg ?ho ?hn ?hr ?_; (case ho => rfl); (case hg => rfl); (case hn => rfl); (case hr => first | (go_simp; done) | (go_simp; rfl)); intro w12 hw; have n0_ : Aside0 (Kd.V (Kd.int .u8) 5 w12 w.heap.size (fun k_ => (P0_ k_ ∨ w.heap.size ≤ k_) ∧ k_ ≠ gb270) (.slice A0 l0.length c0) l0) := ⟨(by rw [hw]; exact (by (with_reducible repeat (first | apply Kd.V_alloc | apply Kd.V_drewN | apply Kd.V_drew)); exact Kd.V_mono (Kd.V_far (Kd.V_far (Kd.V_far (Kd.V_far (Kd.V_far (Kd.V_far (Kd.V_far (Kd.V_far (Kd.V_far (Kd.V_far (Kd.V_far (Kd.V_mono HO_0.out (fun k_ hk => (⟨hk, hk.2⟩ : _ ∧ k_ ≠ gb270))) (fun _ hk => hk.2) _) (fun _ hk => hk.2) _) (fun _ hk => hk.2) _) (fun _ hk => hk.2) _) (fun _ hk => hk.2) _) (fun _ hk => hk.2) _) (fun _ hk => hk.2) _) (fun _ hk => hk.2) _) (fun _ hk => hk.2) _) (fun _ hk => hk.2) _) (fun _ hk => hk.2) _) (fun _ hk => ⟨hk.1.1, hk.1.2⟩)))⟩; have n1_ : Aside0 (w12.heap[gb270]? = some (.cells #[.int .u8 0, .int .u16 0, .bool false, .bool false, .int .i64 0, .int .u8 0, .int .u8 0, .int .u32 0, .int .u32 0, .slice none 0 0, .slice none 0 0] 37 (0, 0))) := ⟨(by rw [hw]; exact (by (with_reducible repeat (first | refine blk_drewN ?_ _ | refine blk_drew ?_ | refine blk_alloc ?_ _)); refine blk_put (cs := #[.int .u8 0, .int .u16 0, .bool false, .bool false, .int .i64 0, .int .u8 0, .int .u8 0, .int .u32 0, .int .u32 0, .slice none 0 0, .slice none 0 0]) ?_ 10 _ rfl; (with_reducible repeat (first | refine blk_drewN ?_ _ | refine blk_drew ?_ | refine blk_alloc ?_ _)); refine blk_put (cs := #[.int .u8 0, .int .u16 0, .bool false, .bool false, .int .i64 0, .int .u8 0, .int .u8 0, .int .u32 0, .int .u32 0, .slice none 0 0, .slice none 0 0]) ?_ 9 _ rfl; (with_reducible repeat (first | refine blk_drewN ?_ _ | refine blk_drew ?_ | refine blk_alloc ?_ _)); refine blk_put (cs := #[.int .u8 0, .int .u16 0, .bool false, .bool false, .int .i64 0, .int .u8 0, .int .u8 0, .int .u32 0, .int .u32 0, .slice none 0 0, .slice none 0 0]) ?_ 8 _ rfl; (with_reducible repeat (first | refine blk_drewN ?_ _ | refine blk_drew ?_ | refine blk_alloc ?_ _)); refine blk_put (cs := #[.int .u8 0, .int .u16 0, .bool false, .bool false, .int .i64 0, .int .u8 0, .int .u8 0, .int .u32 0, .int .u32 0, .slice none 0 0, .slice none 0 0]) ?_ 7 _ rfl; (with_reducible repeat (first | refine blk_drewN ?_ _ | refine blk_drew ?_ | refine blk_alloc ?_ _)); refine blk_put (cs := #[.int .u8 0, .int .u16 0, .bool false, .bool false, .int .i64 0, .int .u8 0, .int .u8 0, .int .u32 0, .int .u32 0, .slice none 0 0, .slice none 0 0]) ?_ 6 _ rfl; (with_reducible repeat (first | refine blk_drewN ?_ _ | refine blk_drew ?_ | refine blk_alloc ?_ _)); refine blk_put (cs := #[.int .u8 0, .int .u16 0, .bool false, .bool false, .int .i64 0, .int .u8 0, .int .u8 0, .int .u32 0, .int .u32 0, .slice none 0 0, .slice none 0 0]) ?_ 5 _ rfl; (with_reducible repeat (first | refine blk_drewN ?_ _ | refine blk_drew ?_ | refine blk_alloc ?_ _)); refine blk_put (cs := #[.int .u8 0, .int .u16 0, .bool false, .bool false, .int .i64 0, .int .u8 0, .int .u8 0, .int .u32 0, .int .u32 0, .slice none 0 0, .slice none 0 0]) ?_ 4 _ rfl; (with_reducible repeat (first | refine blk_drewN ?_ _ | refine blk_drew ?_ | refine blk_alloc ?_ _)); refine blk_put (cs := #[.int .u8 0, .int .u16 0, .bool false, .bool false, .int .i64 0, .int .u8 0, .int .u8 0, .int .u32 0, .int .u32 0, .slice none 0 0, .slice none 0 0]) ?_ 3 _ rfl; (with_reducible repeat (first | refine blk_drewN ?_ _ | refine blk_drew ?_ | refine blk_alloc ?_ _)); refine blk_put (cs := #[.int .u8 0, .int .u16 0, .bool false, .bool false, .int .i64 0, .int .u8 0, .int .u8 0, .int .u32 0, .int .u32 0, .slice none 0 0, .slice none 0 0]) ?_ 2 _ rfl; (with_reducible repeat (first | refine blk_drewN ?_ _ | refine blk_drew ?_ | refine blk_alloc ?_ _)); refine blk_put (cs := #[.int .u8 0, .int .u16 0, .bool false, .bool false, .int .i64 0, .int .u8 0, .int .u8 0, .int .u32 0, .int .u32 0, .slice none 0 0, .slice none 0 0]) ?_ 1 _ rfl; (with_reducible repeat (first | refine blk_drewN ?_ _ | refine blk_drew ?_ | refine blk_alloc ?_ _)); refine blk_put (cs := #[.int .u8 0, .int .u16 0, .bool false, .bool false, .int .i64 0, .int .u8 0, .int .u8 0, .int .u32 0, .int .u32 0, .slice none 0 0, .slice none 0 0]) ?_ 0 _ rfl; (with_reducible repeat (first | refine blk_drewN ?_ _ | refine blk_drew ?_ | refine blk_alloc ?_ _)); exact BK270.out))⟩; have n2_ : Aside0 (Below w.heap.size w w12) := ⟨(by rw [hw]; exact (by repeat (first | (with_reducible first | exact HB.out | apply below_alloc | apply pw_below_drewN | apply below_drew1 | refine below_set ?_ GE270.out) | exact HB.out)))⟩; clear hw; clear HO_0; clear BK270; clear HB; have HO_0 := n0_; have BK270 := n1_; have HB := n2_; clear n0_ n1_ n2_))
     refine bodyPost_ret (results_ct rfl _ _ gb270 37 #[.int .u8 0, .int .u16 0, .bool false, .bool false, .int .i64 0, .int .u8 0, .int .u8 0, .int .u32 0, .int .u32 0, .slice none 0 0, .slice none 0 0] (0, 0) _ rfl (by (with_reducible repeat (first | refine blk_drewN ?_ _ | refine blk_drew ?_ | refine blk_alloc ?_ _)); exact BK270.out) Try.underlying37 rfl (by kernel_rfl)) rfl ?_
     exact ⟨_, _, by first | rfl | (simp [errW_none, errW_some] <;> rfl) | (simp [*, errW_none, errW_some] <;> rfl), Kd.V_nil _ _ _ _ _, Kd.V_nil _ _ _ _ _, by repeat (first | (with_reducible first | exact HB.out | apply below_alloc | apply pw_below_drewN | apply below_drew1 | refine below_set ?_ GE270.out) | exact HB.out)⟩
    ·
     replace c10 := Bool.eq_false_iff.mpr c10
     subst c10
     have H1 : (if 0 < (l0.length : Int) then (if (l0.length : Int) < (wrap64 (4 * (wrap64 ((wrap64 (rd l0 0)) - 64)))) then (some (0, 0, false, false, 0, 0, 0, 0, 0, ([] : List Int), ([] : List Int), 2)) else (if 0 ≤ (wrap64 (4 * (wrap64 ((wrap64 (rd l0 0)) - 64)))) then (if (wrap64 (4 * (wrap64 ((wrap64 (rd l0 0)) - 64)))) ≤ (l0.length : Int) then ((towroperef02_Sum.f kj5 (l0.take ((wrap64 (4 * (wrap64 ((wrap64 (rd l0 0)) - 64)))) : Int).toNat)).bind fun t279 => (if t279 = 65535 then ((towroperef06_number.f l0 2).bind fun t280 => (if t280 < (wrap64 (4 * (wrap64 ((wrap64 (rd l0 0)) - 64)))) then (towroperef06_Get.j1 kj5 l0 (wrap64 (4 * (wrap64 ((wrap64 (rd l0 0)) - 64)))) t280 true) else (if 6 < (l0.length : Int) then (towroperef06_Get.j1 kj5 l0 (wrap64 (4 * (wrap64 ((wrap64 (rd l0 0)) - 64)))) t280 (decide ((rd l0 6) ≥ 128))) else (none)))) else (some (0, 0, false, false, 0, 0, 0, 0, 0, ([] : List Int), ([] : List Int), 4)))) else (none)) else (none))) else (none)) = some (r1, r2, r3, r4, r5, r6, r7, r8, r9, r10, r11, r12) := by rw [if_neg (show ¬ (false = true) by decide)] at H; exact H
     clear H
     have H := H1
     clear H1
     by_cases c13 : 0 < (l0.length : Int)
     ·
      rw [if_pos c13] at H
      have c13b0 : decide (0 < (l0.length : Int)) = true := decide_eq_true c13
      have c13b1 : decide (0 < l0.length) = true := decide_eq_true (by omega)
      clear c13
      by_cases c14 : (l0.length : Int) < (wrap64 (4 * (wrap64 ((wrap64 (rd l0 0)) - 64))))
      ·
       rw [if_pos c14] at H
       have c14b0 : decide ((l0.length : Int) < (wrap64 (4 * (wrap64 ((wrap64 (rd l0 0)) - 64))))) = true := decide_eq_true c14
       clear c14
       simp only [Option.some.injEq, Prod.mk.injEq] at H
       obtain ⟨rfl, rfl, rfl, rfl, rfl, rfl, rfl, rfl, rfl, rfl, rfl, rfl⟩ := H
       have p273 : 0 ≤ (0 : Int) := (by omega)
       have q273 : 0 < (l0.length : Int) := of_decide_eq_true (by first | (with_reducible assumption) | assumption)
       obtain ⟨ad273, e273, hx273_0⟩ := Kd.at_int (Kd.V_reads' HO_0.out).2.2 0 p273 q273
       cases e273
       have qi273 : (0 < l0.length) = True := eq_true (by omega)
       (try rw [show ((0 : Int)).toNat = 0 from rfl] at hx273_0)
       (try rw [Addr.add_zero'] at hx273_0)
       replace p273 := eq_true p273
       replace q273 := eq_true q273
       have hcz15 := blk_cell BK270.out
       have hfz15 := blk_frozen BK270.out
       go_wp2_with (first | ((with_reducible refine gate_store (t := 37) (p := 2) rfl ?_); refine store_event (t := 37) (p := 2) (v := ?vo_w16) (w1 := (((((((((((wc.setCell ⟨gb270, 0, none⟩ (.int .u8 0)).setCell ⟨gb270, 1, none⟩ (.int .u16 0)).setCell ⟨gb270, 2, none⟩ (.bool false)).setCell ⟨gb270, 3, none⟩ (.bool false)).setCell ⟨gb270, 4, none⟩ (.int .i64 0)).setCell ⟨gb270, 5, none⟩ (.int .u8 0)).setCell ⟨gb270, 6, none⟩ (.int .u8 0)).setCell ⟨gb270, 7, none⟩ (.int .u32 0)).setCell ⟨gb270, 8, none⟩ (.int .u32 0)).setCell ⟨gb270, 9, none⟩ (.slice none 0 0)).setCell ⟨gb270, 10, none⟩ (.slice none 0 0))) ?hg ?ho ?hn ?hr ?_; (case ho => rfl); (case hg => rfl); (case hn => rfl); (case hr => first | (go_simp; done) | (go_simp; rfl)); intro w16 hw; have n0_ : Aside0 (Kd.V (Kd.int .u8) 5 w16 w.heap.size (fun k_ => (P0_ k_ ∨ w.heap.size ≤ k_) ∧ k_ ≠ gb270) (.slice (some ad273) l0.length c0) l0) := ⟨(by rw [hw]; exact (by (with_reducible repeat (first | apply Kd.V_alloc | apply Kd.V_drewN | apply Kd.V_drew)); exact Kd.V_mono (Kd.V_far (Kd.V_far (Kd.V_far (Kd.V_far (Kd.V_far (Kd.V_far (Kd.V_far (Kd.V_far (Kd.V_far (Kd.V_far (Kd.V_far (Kd.V_mono HO_0.out (fun k_ hk => (⟨hk, hk.2⟩ : _ ∧ k_ ≠ gb270))) (fun _ hk => hk.2) _) (fun _ hk => hk.2) _) (fun _ hk => hk.2) _) (fun _ hk => hk.2) _) (fun _ hk => hk.2) _) (fun _ hk => hk.2) _) (fun _ hk => hk.2) _) (fun _ hk => hk.2) _) (fun _ hk => hk.2) _) (fun _ hk => hk.2) _) (fun _ hk => hk.2) _) (fun _ hk => ⟨hk.1.1, hk.1.2⟩)))⟩; have n1_ : Aside0 (w16.heap[gb270]? = some (.cells #[.int .u8 0, .int .u16 0, .bool false, .bool false, .int .i64 0, .int .u8 0, .int .u8 0, .int .u32 0, .int .u32 0, .slice none 0 0, .slice none 0 0] 37 (0, 0))) := ⟨(by rw [hw]; exact (by (with_reducible repeat (first | refine blk_drewN ?_ _ | refine blk_drew ?_ | refine blk_alloc ?_ _)); refine blk_put (cs := #[.int .u8 0, .int .u16 0, .bool false, .bool false, .int .i64 0, .int .u8 0, .int .u8 0, .int .u32 0, .int .u32 0, .slice none 0 0, .slice none 0 0]) ?_ 10 _ rfl; (with_reducible repeat (first | refine blk_drewN ?_ _ | refine blk_drew ?_ | refine blk_alloc ?_ _)); refine blk_put (cs := #[.int .u8 0, .int .u16 0, .bool false, .bool false, .int .i64 0, .int .u8 0, .int .u8 0, .int .u32 0, .int .u32 0, .slice none 0 0, .slice none 0 0]) ?_ 9 _ rfl; (with_reducible repeat (first | refine blk_drewN ?_ _ | refine blk_drew ?_ | refine blk_alloc ?_ _)); refine blk_put (cs := #[.int .u8 0, .int .u16 0, .bool false, .bool false, .int .i64 0, .int .u8 0, .int .u8 0, .int .u32 0, .int .u32 0, .slice none 0 0, .slice none 0 0]) ?_ 8 _ rfl; (with_reducible repeat (first | refine blk_drewN ?_ _ | refine blk_drew ?_ | refine blk_alloc ?_ _)); refine blk_put (cs := #[.int .u8 0, .int .u16 0, .bool false, .bool false, .int .i64 0, .int .u8 0, .int .u8 0, .int .u32 0, .int .u32 0, .slice none 0 0, .slice none 0 0]) ?_ 7 _ rfl; (with_reducible repeat (first | refine blk_drewN ?_ _ | refine blk_drew ?_ | refine blk_alloc ?_ _)); refine blk_put (cs := #[.int .u8 0, .int .u16 0, .bool false, .bool false, .int .i64 0, .int .u8 0, .int .u8 0, .int .u32 0, .int .u32 0, .slice none 0 0, .slice none 0 0]) ?_ 6 _ rfl; (with_reducible repeat (first | refine blk_drewN ?_ _ | refine blk_drew ?_ | refine blk_alloc ?_ _)); refine blk_put (cs := #[.int .u8 0, .int .u16 0, .bool false, .bool false, .int .i64 0, .int .u8 0, .int .u8 0, .int .u32 0, .int .u32 0, .slice none 0 0, .slice none 0 0]) ?_ 5 _ rfl; (with_reducible repeat (first | refine blk_drewN ?_ _ | refine blk_drew ?_ | refine blk_alloc ?_ _)); refine blk_put (cs := #[.int .u8 0, .int .u16 0, .bool false, .bool false, .int .i64 0, .int .u8 0, .int .u8 0, .int .u32 0, .int .u32 0, .slice none 0 0, .slice none 0 0]) ?_ 4 _ rfl; (with_reducible repeat (first | refine blk_drewN ?_ _ | refine blk_drew ?_ | refine blk_alloc ?_ _)); refine blk_put (cs := #[.int .u8 0, .int .u16 0, .bool false, .bool false, .int .i64 0, .int .u8 0, .int .u8 0, .int .u32 0, .int .u32 0, .slice none 0 0, .slice none 0 0]) ?_ 3 _ rfl; (with_reducible repeat (first | refine blk_drewN ?_ _ | refine blk_drew ?_ | refine blk_alloc ?_ _)); refine blk_put (cs := #[.int .u8 0, .int .u16 0, .bool false, .bool false, .int .i64 0, .int .u8 0, .int .u8 0, .int .u32 0, .int .u32 0, .slice none 0 0, .slice none 0 0]) ?_ 2 _ rfl; (with_reducible repeat (first | refine blk_drewN ?_ _ | refine blk_drew ?_ | refine blk_alloc ?_ _)); refine blk_put (cs := #[.int .u8 0, .int .u16 0, .bool false, .bool false, .int .i64 0, .int .u8 0, .int .u8 0, .int .u32 0, .int .u32 0, .slice none 0 0, .slice none 0 0]) ?_ 1 _ rfl; (with_reducible repeat (first | refine blk_drewN ?_ _ | refine blk_drew ?_ | refine blk_alloc ?_ _)); refine blk_put (cs := #[.int .u8 0, .int .u16 0, .bool false, .bool false, .int .i64 0, .int .u8 0, .int .u8 0, .int .u32 0, .int .u32 0, .slice none 0 0, .slice none 0 0]) ?_ 0 _ rfl; (with_reducible repeat (first | refine blk_drewN ?_ _ | refine blk_drew ?_ | refine blk_alloc ?_ _)); exact BK270.out))⟩; have n2_ : Aside0 (Below w.heap.size w w16) := ⟨(by rw [hw]; exact (by repeat (first | (with_reducible first | exact HB.out | apply below_alloc | apply pw_below_drewN | apply below_drew1 | refine below_set ?_ GE270.out) | exact HB.out)))⟩; clear hw; clear HO_0; clear BK270; clear HB; have HO_0 := n0_; have BK270 := n1_; have HB := n2_; clear n0_ n1_ n2_))
       refine bodyPost_ret (results_ct rfl _ _ gb270 37 #[.int .u8 0, .int .u16 0, .bool false, .bool false, .int .i64 0, .int .u8 0, .int .u8 0, .int .u32 0, .int .u32 0, .slice none 0 0, .slice none 0 0] (0, 0) _ rfl (by (with_reducible repeat (first | refine blk_drewN ?_ _ | refine blk_drew ?_ | refine blk_alloc ?_ _)); exact BK270.out) Try.underlying37 rfl (by kernel_rfl)) rfl ?_
       exact ⟨_, _, by first | rfl | (simp [errW_none, errW_some] <;> rfl) | (simp [*, errW_none, errW_some] <;> rfl), Kd.V_nil _ _ _ _ _, Kd.V_nil _ _ _ _ _, by repeat (first | (with_reducible first | exact HB.out | apply below_alloc | apply pw_below_drewN | apply below_drew1 | refine below_set ?_ GE270.out) | exact HB.out)⟩
      ·
       rw [if_neg c14] at H
       have c14b0 : decide ((l0.length : Int) < (wrap64 (4 * (wrap64 ((wrap64 (rd l0 0)) - 64))))) = false := decide_eq_false c14
       clear c14
       obtain ⟨ji17, hji17⟩ : ∃ j_ : Int, (wrap64 (4 * (wrap64 ((wrap64 (rd l0 0)) - 64)))) = j_ := ⟨_, rfl⟩
       replace H : (if 0 ≤ (ji17) then (if (ji17) ≤ (l0.length : Int) then ((towroperef02_Sum.f kj5 (l0.take ((ji17) : Int).toNat)).bind fun t279 => (if t279 = 65535 then ((towroperef06_number.f l0 2).bind fun t280 => (if t280 < (ji17) then (towroperef06_Get.j1 kj5 l0 ji17 t280 true) else (if 6 < (l0.length : Int) then (towroperef06_Get.j1 kj5 l0 ji17 t280 (decide ((rd l0 6) ≥ 128))) else (none)))) else (some (0, 0, false, false, 0, 0, 0, 0, 0, ([] : List Int), ([] : List Int), 4)))) else (none)) else (none)) = some (r1, r2, r3, r4, r5, r6, r7, r8, r9, r10, r11, r12) := by first | (rw [hji17] at H; exact H) | (simp only [hji17] at H ⊢; exact H)
       (try rw [hji17] at c14b0)
       have hji17w : (IntKind.i64.wrap (4 * (wrap64 ((wrap64 (rd l0 0)) - 64)))) = ji17 := (i64_w _).trans hji17
       by_cases c18 : 0 ≤ (ji17)
       ·
        rw [if_pos c18] at H
        have c18b0 := eq_true c18
        have c18b1 : decide (0 ≤ (ji17)) = true := decide_eq_true c18
        clear c18
        by_cases c19 : (ji17) ≤ (l0.length : Int)
        ·
         rw [if_pos c19] at H
         have c19b0 := eq_true c19
         have c19b1 : decide ((ji17) ≤ (l0.length : Int)) = true := decide_eq_true c19
         clear c19
         obtain ⟨y274, hy274⟩ : ∃ y_ : List Int, y_ = (l0.take ((ji17) : Int).toNat) := ⟨_, rfl⟩
         replace H : ((towroperef02_Sum.f kj5 y274).bind fun t279 => (if t279 = 65535 then ((towroperef06_number.f l0 2).bind fun t280 => (if t280 < (ji17) then (towroperef06_Get.j1 kj5 l0 ji17 t280 true) else (if 6 < (l0.length : Int) then (towroperef06_Get.j1 kj5 l0 ji17 t280 (decide ((rd l0 6) ≥ 128))) else (none)))) else (some (0, 0, false, false, 0, 0, 0, 0, 0, ([] : List Int), ([] : List Int), 4)))) = some (r1, r2, r3, r4, r5, r6, r7, r8, r9, r10, r11, r12) := by first | (rw [hy274]; with_reducible exact H) | (have H2_ := (Option.bind_some _ _).symm.trans H; rw [hy274]; with_reducible exact H2_) | (have H2_ := (Option.bind_some _ _).symm.trans H; with_reducible exact H2_) | with_reducible exact H | (rw [hy274]; exact H) | exact H
         have Ny274 := Aside0.mk hy274
         clear hy274
         replace H := Option.bind_eq_some_iff.mp H
         obtain ⟨t279, A200, H⟩ := H
         replace H : (if t279 = 65535 then ((towroperef06_number.f l0 2).bind fun t280 => (if t280 < (ji17) then (towroperef06_Get.j1 kj5 l0 ji17 t280 true) else (if 6 < (l0.length : Int) then (towroperef06_Get.j1 kj5 l0 ji17 t280 (decide ((rd l0 6) ≥ 128))) else (none)))) else (some (0, 0, false, false, 0, 0, 0, 0, 0, ([] : List Int), ([] : List Int), 4))) = some (r1, r2, r3, r4, r5, r6, r7, r8, r9, r10, r11, r12) := H
         have A20 := Aside0.mk A200
         clear A200
         by_cases c21 : t279 = 65535
         ·
          rw [if_pos c21] at H
          have c21b0 : (t279 == 65535) = true := beq_iff_eq.mpr c21
          have c21b1 : (t279 != 65535) = false := bne_eq_false_iff_eq.mpr c21
          clear c21
          replace H := Option.bind_eq_some_iff.mp H
          obtain ⟨t280, A220, H⟩ := H
          replace H : (if t280 < (ji17) then (towroperef06_Get.j1 kj5 l0 ji17 t280 true) else (if 6 < (l0.length : Int) then (towroperef06_Get.j1 kj5 l0 ji17 t280 (decide ((rd l0 6) ≥ 128))) else (none))) = some (r1, r2, r3, r4, r5, r6, r7, r8, r9, r10, r11, r12) := H
          have A22 := Aside0.mk A220
          clear A220
          have HC23 := Aside0.mk H
          clear H
          have p273 : 0 ≤ (0 : Int) := (by omega)
          have q273 : 0 < (l0.length : Int) := of_decide_eq_true (by first | (with_reducible assumption) | assumption)
          obtain ⟨ad273, e273, hx273_0⟩ := Kd.at_int (Kd.V_reads' HO_0.out).2.2 0 p273 q273
          cases e273
          have qi273 : (0 < l0.length) = True := eq_true (by omega)
          (try rw [show ((0 : Int)).toNat = 0 from rfl] at hx273_0)
          (try rw [Addr.add_zero'] at hx273_0)
          replace p273 := eq_true p273
          replace q273 := eq_true q273
          have q24 : ((ji17) : Int) ≤ ((l0.length : Int) : Int) := of_decide_eq_true (by first | (with_reducible assumption) | assumption)
          obtain ⟨i024, hi024, _, hsz24, _⟩ := info_parts info5
          have hroom24 : l0.length ≤ c0 := (Kd.V_reads' HO_0.out).2.1
          have hC24 : Kd.F (Kd.int .u8) _ _ (some ad273) l0.length l0 := (Kd.V_at (base := w.heap.size) HO_0.out).2.2
          have hcut24 := cut_to (P := Try.prog) 23 5 .i64 Try.underlying23 hi024 (some ad273) l0.length c0 (ji17) (of_decide_eq_true (by first | (with_reducible assumption) | assumption)) q24 hroom24
          have hr24 := Kd.F_take (m := ((ji17) : Int).toNat) hC24 (by omega)
          have hy24 : y274.length = ((ji17) : Int).toNat := (by rw [Ny274.out, List.length_take]; omega)
          rw [← Ny274.out] at hr24
          rw [← hy24] at hcut24
          have HO278 := Aside0.mk (show Kd.V (Kd.int .u8) 5 _ w.heap.size _ (.slice (some ad273) y274.length c0) y274 from Kd.V_mk (by omega) hr24)
          have HC278 := Aside0.mk (show y274.length ≤ c0 from by omega)
          clear hr24 hC24 hroom24 hi024 hsz24
          have KY24 := Aside0.mk hy24
          clear hy24
          replace q24 := eq_true q24
          go_upto_region 11 with (first | ((with_reducible refine gate_callee (f := 49) rfl ?_); refine goesL_ (some 36) rfl rfl Try.func49 (by kernel_rfl) rfl #[.slice (some ad273) y274.length c0] rfl (by (try simp only [List.map_toArray, List.map_cons, List.map_nil]); first | done | rfl | (simp only [List.length_drop, List.length_take]; rfl) | (go_simp; done) | (go_simp; omega)) ?_; (with_reducible refine (towroperef02_Sum.calls kj5 _ _ y274 t279 _ ?side1 ?side2 A20.out).mono ?_); (case side1 => repeat (first | exact (Kd.V_reads' HO278.out).2.2 | (with_reducible refine Kd.C_alloc ?_ _) | (with_reducible refine Kd.C_drewN ?_ _) | (with_reducible refine Kd.C_drew ?_))); (case side2 => exact (Kd.V_reads' HO278.out).2.1); rintro e w' ⟨rfl, ⟨nd, rfl⟩⟩; refine ⟨_, rfl, ?_⟩) | ((with_reducible refine gate_callee (f := 58) rfl ?_); refine goesL_ (some 40) rfl rfl Try.func58 (by kernel_rfl) rfl #[.slice (some ad273) l0.length c0, .int .i64 2] rfl (by (try simp only [List.map_toArray, List.map_cons, List.map_nil]); first | done | rfl | (simp only [List.length_drop, List.length_take]; rfl) | (go_simp; done) | (go_simp; omega)) ?_; (with_reducible refine (towroperef06_number.calls _ _ l0 2 t280 _ ?side1 ?side2 A22.out).mono ?_); (case side1 => repeat (first | exact (Kd.V_reads' HO_0.out).2.2 | (with_reducible refine Kd.C_alloc ?_ _) | (with_reducible refine Kd.C_drewN ?_ _) | (with_reducible refine Kd.C_drew ?_))); (case side2 => exact (Kd.V_reads' HO_0.out).2.1); rintro e w' ⟨rfl, ⟨nd, rfl⟩⟩; refine ⟨_, rfl, ?_⟩))
          (try simp only [Act.put, List.setIfInBounds_toArray, List.set_cons_zero, List.set_cons_succ])
          go_cut [49] (fun v49 wc => ∃ (kq : Nat) (x49_22 : Bool), v49 = .bool x49_22 ∧ Aside0 (towroperef06_Get.j1 kq l0 ji17 t280 x49_22 = some (r1, r2, r3, r4, r5, r6, r7, r8, r9, r10, r11, r12)) ∧ Aside0 (kq ≤ kj5) ∧ Aside0 (Kd.V (Kd.int .u8) 5 wc w.heap.size (fun k_ => (P0_ k_ ∨ w.heap.size ≤ k_) ∧ k_ ≠ gb270) (.slice (some ad273) l0.length c0) l0) ∧ Aside0 (wc.heap[gb270]? = some (.cells #[.int .u8 0, .int .u16 0, .bool false, .bool false, .int .i64 0, .int .u8 0, .int .u8 0, .int .u32 0, .int .u32 0, (.slice none 0 0), (.slice none 0 0)] 37 (0, 0))) ∧ Aside0 (Below w.heap.size w wc))
          case first =>
           have H := HC23.out
           clear HC23
           by_cases c25 : t280 < (ji17)
           ·
            rw [if_pos c25] at H
            have c25b0 : decide (t280 < (ji17)) = true := decide_eq_true c25
            clear c25
            (first | rw [c25b0] | (simp only [i64_w, i32_w]; rw [c25b0]) | skip)
            have H' := Aside0.mk H
            clear H
            go_wp2
            go_meet
            case rel => exact ⟨_, (true), (by first | rfl | (simp; done) | (simp [*]; done)), H', ⟨by have := HJ5.out; first | omega | exact Nat.le_refl _⟩, ⟨by (with_reducible repeat (first | apply Kd.V_alloc | apply Kd.V_drewN | apply Kd.V_drew)); exact HO_0.out⟩, ⟨by (with_reducible repeat (first | refine blk_drewN ?_ _ | refine blk_drew ?_ | refine blk_alloc ?_ _)); exact BK270.out⟩, ⟨by repeat (first | (with_reducible first | exact HB.out | apply below_alloc | apply pw_below_drewN | apply below_drew1 | refine below_set ?_ GE270.out) | exact HB.out)⟩⟩
           ·
            rw [if_neg c25] at H
            have c25b0 : decide (t280 < (ji17)) = false := decide_eq_false c25
            clear c25
            (first | rw [c25b0] | (simp only [i64_w, i32_w]; rw [c25b0]) | skip)
            by_cases c26 : 6 < (l0.length : Int)
            ·
             rw [if_pos c26] at H
             have c26b0 : decide (6 < (l0.length : Int)) = true := decide_eq_true c26
             have c26b1 : decide (6 < l0.length) = true := decide_eq_true (by omega)
             clear c26
             have H' := Aside0.mk H
             clear H
             have p281 : 0 ≤ (6 : Int) := (by omega)
             have q281 : 6 < (l0.length : Int) := of_decide_eq_true (by first | (with_reducible assumption) | assumption)
             obtain ⟨ad281, e281, hx281_0⟩ := Kd.at_int (Kd.V_reads' HO_0.out).2.2 6 p281 q281
             obtain rfl : ad273 = ad281 := (by injection e281)
             (try simp only [show (6 : Int).toNat = 6 from rfl, Nat.reduceMul, Nat.reduceEqDiff, Go.Addr.add, ↓reduceIte] at hx281_0)
             have qi281 : (6 < l0.length) = True := eq_true (by omega)
             (try rw [show ((6 : Int)).toNat = 6 from rfl] at hx281_0)
             replace p281 := eq_true p281
             replace q281 := eq_true q281
             go_wp2
             go_meet
             case rel => exact ⟨_, (decide ((rd l0 6) ≥ 128)), (by first | rfl | (simp; done) | (simp [*]; done)), H', ⟨by have := HJ5.out; first | omega | exact Nat.le_refl _⟩, ⟨by (with_reducible repeat (first | apply Kd.V_alloc | apply Kd.V_drewN | apply Kd.V_drew)); exact HO_0.out⟩, ⟨by (with_reducible repeat (first | refine blk_drewN ?_ _ | refine blk_drew ?_ | refine blk_alloc ?_ _)); exact BK270.out⟩, ⟨by repeat (first | (with_reducible first | exact HB.out | apply below_alloc | apply pw_below_drewN | apply below_drew1 | refine below_set ?_ GE270.out) | exact HB.out)⟩⟩
            ·
             rw [if_neg c26] at H
             exact absurd H (by simp)
          case rest =>
           clear HC23
           try clear c1
           try clear c2
           try clear c2b0
           try clear c2b1
           try clear p2
           try clear q2
           try clear hx2
           try clear qi2
           try clear c3
           try clear c4
           try clear c5
           try clear p6
           try clear c8
           try clear c8b0
           try clear c8b1
           try clear c9
           try clear c9b0
           try clear c10
           try clear c13
           try clear c13b0
           try clear c13b1
           try clear c14
           try clear c14b0
           try clear c18
           try clear c18b0
           try clear c18b1
           try clear c19
           try clear c19b0
           try clear c19b1
           try clear c21
           try clear c21b0
           try clear c21b1
           try clear q24
           try clear c25
           try clear c25b0
           try clear c26
           try clear c26b0
           try clear c26b1
           try clear hcz11
           try clear hcz15
           try clear hcz4
           try clear hfz11
           try clear hfz15
           try clear hfz4
           try clear hx271_0
           try clear hx272_0
           try clear hx273_0
           try clear hx281_0
           try clear p2
           try clear p271
           try clear p272
           try clear p273
           try clear p281
           try clear q2
           try clear q24
           try clear q271
           try clear q272
           try clear q273
           try clear q281
           obtain ⟨kq, x49_22, rfl, HA, HJ22, HO_0, BK270, HB⟩ := hcut
           cases kq with
           | zero => exact absurd HA.out (by simp [towroperef06_Get.j1])
           | succ kj22 =>
            have H := HA.out
            clear HA
            simp only [towroperef06_Get.j1] at H
            by_cases c27 : x49_22 = true
            ·
             subst c27
             have H1 : (some (0, 0, false, false, 0, 0, 0, 0, 0, ([] : List Int), ([] : List Int), 3)) = some (r1, r2, r3, r4, r5, r6, r7, r8, r9, r10, r11, r12) := by rw [if_pos rfl] at H; exact H
             clear H
             have H := H1
             clear H1
             simp only [Option.some.injEq, Prod.mk.injEq] at H
             obtain ⟨rfl, rfl, rfl, rfl, rfl, rfl, rfl, rfl, rfl, rfl, rfl, rfl⟩ := H
             have hcz28 := blk_cell BK270.out
             have hfz28 := blk_frozen BK270.out
             go_wp2_with (first | ((with_reducible refine gate_store (t := 37) (p := 2) rfl ?_); refine store_event (t := 37) (p := 2) (v := ?vo_w29) (w1 := (((((((((((wc.setCell ⟨gb270, 0, none⟩ (.int .u8 0)).setCell ⟨gb270, 1, none⟩ (.int .u16 0)).setCell ⟨gb270, 2, none⟩ (.bool false)).setCell ⟨gb270, 3, none⟩ (.bool false)).setCell ⟨gb270, 4, none⟩ (.int .i64 0)).setCell ⟨gb270, 5, none⟩ (.int .u8 0)).setCell ⟨gb270, 6, none⟩ (.int .u8 0)).setCell ⟨gb270, 7, none⟩ (.int .u32 0)).setCell ⟨gb270, 8, none⟩ (.int .u32 0)).setCell ⟨gb270, 9, none⟩ (.slice none 0 0)).setCell ⟨gb270, 10, none⟩ (.slice none 0 0))) ?hg ?ho ?hn ?hr ?_; (case ho => rfl); (case hg => rfl); (case hn => rfl); (case hr => first | (go_simp; done) | (go_simp; rfl)); intro w29 hw; have n0_ : Aside0 (Kd.V (Kd.int .u8) 5 w29 w.heap.size (fun k_ => (P0_ k_ ∨ w.heap.size ≤ k_) ∧ k_ ≠ gb270) (.slice (some ad273) l0.length c0) l0) := ⟨(by rw [hw]; exact (by (with_reducible repeat (first | apply Kd.V_alloc | apply Kd.V_drewN | apply Kd.V_drew)); exact Kd.V_mono (Kd.V_far (Kd.V_far (Kd.V_far (Kd.V_far (Kd.V_far (Kd.V_far (Kd.V_far (Kd.V_far (Kd.V_far (Kd.V_far (Kd.V_far (Kd.V_mono HO_0.out (fun k_ hk => (⟨hk, hk.2⟩ : _ ∧ k_ ≠ gb270))) (fun _ hk => hk.2) _) (fun _ hk => hk.2) _) (fun _ hk => hk.2) _) (fun _ hk => hk.2) _) (fun _ hk => hk.2) _) (fun _ hk => hk.2) _) (fun _ hk => hk.2) _) (fun _ hk => hk.2) _) (fun _ hk => hk.2) _) (fun _ hk => hk.2) _) (fun _ hk => hk.2) _) (fun _ hk => ⟨hk.1.1, hk.1.2⟩)))⟩; have n1_ : Aside0 (w29.heap[gb270]? = some (.cells #[.int .u8 0, .int .u16 0, .bool false, .bool false, .int .i64 0, .int .u8 0, .int .u8 0, .int .u32 0, .int .u32 0, .slice none 0 0, .slice none 0 0] 37 (0, 0))) := ⟨(by rw [hw]; exact (by (with_reducible repeat (first | refine blk_drewN ?_ _ | refine blk_drew ?_ | refine blk_alloc ?_ _)); refine blk_put (cs := #[.int .u8 0, .int .u16 0, .bool false, .bool false, .int .i64 0, .int .u8 0, .int .u8 0, .int .u32 0, .int .u32 0, .slice none 0 0, .slice none 0 0]) ?_ 10 _ rfl; (with_reducible repeat (first | refine blk_drewN ?_ _ | refine blk_drew ?_ | refine blk_alloc ?_ _)); refine blk_put (cs := #[.int .u8 0, .int .u16 0, .bool false, .bool false, .int .i64 0, .int .u8 0, .int .u8 0, .int .u32 0, .int .u32 0, .slice none 0 0, .slice none 0 0]) ?_ 9 _ rfl; (with_reducible repeat (first | refine blk_drewN ?_ _ | refine blk_drew ?_ | refine blk_alloc ?_ _)); refine blk_put (cs := #[.int .u8 0, .int .u16 0, .bool false, .bool false, .int .i64 0, .int .u8 0, .int .u8 0, .int .u32 0, .int .u32 0, .slice none 0 0, .slice none 0 0]) ?_ 8 _ rfl; (with_reducible repeat (first | refine blk_drewN ?_ _ | refine blk_drew ?_ | refine blk_alloc ?_ _)); refine blk_put (cs := #[.int .u8 0, .int .u16 0, .bool false, .bool false, .int .i64 0, .int .u8 0, .int .u8 0, .int .u32 0, .int .u32 0, .slice none 0 0, .slice none 0 0]) ?_ 7 _ rfl; (with_reducible repeat (first | refine blk_drewN ?_ _ | refine blk_drew ?_ | refine blk_alloc ?_ _)); refine blk_put (cs := #[.int .u8 0, .int .u16 0, .bool false, .bool false, .int .i64 0, .int .u8 0, .int .u8 0, .int .u32 0, .int .u32 0, .slice none 0 0, .slice none 0 0]) ?_ 6 _ rfl; (with_reducible repeat (first | refine blk_drewN ?_ _ | refine blk_drew ?_ | refine blk_alloc ?_ _)); refine blk_put (cs := #[.int .u8 0, .int .u16 0, .bool false, .bool false, .int .i64 0, .int .u8 0, .int .u8 0, .int .u32 0, .int .u32 0, .slice none 0 0, .slice none 0 0]) ?_ 5 _ rfl; (with_reducible repeat (first | refine blk_drewN ?_ _ | refine blk_drew ?_ | refine blk_alloc ?_ _)); refine blk_put (cs := #[.int .u8 0, .int .u16 0, .bool false, .bool false, .int .i64 0, .int .u8 0, .int .u8 0, .int .u32 0, .int .u32 0, .slice none 0 0, .slice none 0 0]) ?_ 4 _ rfl; (with_reducible repeat (first | refine blk_drewN ?_ _ | refine blk_drew ?_ | refine blk_alloc ?_ _)); refine blk_put (cs := #[.int .u8 0, .int .u16 0, .bool false, .bool false, .int .i64 0, .int .u8 0, .int .u8 0, .int .u32 0, .int .u32 0, .slice none 0 0, .slice none 0 0]) ?_ 3 _ rfl; (with_reducible repeat (first | refine blk_drewN ?_ _ | refine blk_drew ?_ | refine blk_alloc ?_ _)); refine blk_put (cs := #[.int .u8 0, .int .u16 0, .bool false, .bool false, .int .i64 0, .int .u8 0, .int .u8 0, .int .u32 0, .int .u32 0, .slice none 0 0, .slice none 0 0]) ?_ 2 _ rfl; (with_reducible repeat (first | refine blk_drewN ?_ _ | refine blk_drew ?_ | refine blk_alloc ?_ _)); refine blk_put (cs := #[.int .u8 0, .int .u16 0, .bool false, .bool false, .int .i64 0, .int .u8 0, .int .u8 0, .int .u32 0, .int .u32 0, .slice none 0 0, .slice none 0 0]) ?_ 1 _ rfl; (with_reducible repeat (first | refine blk_drewN ?_ _ | refine blk_drew ?_ | refine blk_alloc ?_ _)); refine blk_put (cs := #[.int .u8 0, .int .u16 0, .bool false, .bool false, .int .i64 0, .int .u8 0, .int .u8 0, .int .u32 0, .int .u32 0, .slice none 0 0, .slice none 0 0]) ?_ 0 _ rfl; (with_reducible repeat (first | refine blk_drewN ?_ _ | refine blk_drew ?_ | refine blk_alloc ?_ _)); exact BK270.out))⟩; have n2_ : Aside0 (Below w.heap.size w w29) := ⟨(by rw [hw]; exact (by repeat (first | (with_reducible first | exact HB.out | apply below_alloc | apply pw_below_drewN | apply below_drew1 | refine below_set ?_ GE270.out) | exact HB.out)))⟩; clear hw; clear HO_0; clear BK270; clear HB; have HO_0 := n0_; have BK270 := n1_; have HB := n2_; clear n0_ n1_ n2_))
             refine bodyPost_ret (results_ct rfl _ _ gb270 37 #[.int .u8 0, .int .u16 0, .bool false, .bool false, .int .i64 0, .int .u8 0, .int .u8 0, .int .u32 0, .int .u32 0, .slice none 0 0, .slice none 0 0] (0, 0) _ rfl (by (with_reducible repeat (first | refine blk_drewN ?_ _ | refine blk_drew ?_ | refine blk_alloc ?_ _)); exact BK270.out) Try.underlying37 rfl (by kernel_rfl)) rfl ?_
             exact ⟨_, _, by first | rfl | (simp [errW_none, errW_some] <;> rfl) | (simp only [← hji17]; first | rfl | (simp [errW_none, errW_some] <;> rfl)) | (simp [*, errW_none, errW_some] <;> rfl), Kd.V_nil _ _ _ _ _, Kd.V_nil _ _ _ _ _, by repeat (first | (with_reducible first | exact HB.out | apply below_alloc | apply pw_below_drewN | apply below_drew1 | refine below_set ?_ GE270.out) | exact HB.out)⟩
            ·
             replace c27 := Bool.eq_false_iff.mpr c27
             subst c27
             have H1 : (if (l0.length : Int) < t280 then (some (0, 0, false, false, 0, 0, 0, 0, 0, ([] : List Int), ([] : List Int), 2)) else (if 1 < (l0.length : Int) then ((towroperef06_number.f l0 4).bind fun t283 => (if 8 < (l0.length : Int) then (if 9 < (l0.length : Int) then (if 6 < (l0.length : Int) then ((towroperef06_number.f l0 6).bind fun t289 => ((towroperef06_number.f l0 12).bind fun t290 => ((towroperef06_number.f l0 14).bind fun t291 => ((towroperef06_number.f l0 16).bind fun t292 => ((towroperef06_number.f l0 18).bind fun t293 => (if 20 ≤ ji17 then (if ji17 ≤ (l0.length : Int) then (if 0 ≤ ji17 then (if ji17 ≤ t280 then (if t280 ≤ (l0.length : Int) then (some (rd l0 1, IntKind.u16.wrap (t283), ((((Int.tdiv (rd l0 6) 64) % 256) % 2) == 1), ((((Int.tdiv (rd l0 6) 32) % 256) % 2) == 1), Int.tmod t289 8192, rd l0 8, rd l0 9, (wrap64 ((wrap64 (65536 * t290)) + t291)) % 4294967296, (wrap64 ((wrap64 (65536 * t292)) + t293)) % 4294967296, ((l0.take (ji17 : Int).toNat).drop 20), ((l0.take (t280 : Int).toNat).drop (ji17 : Int).toNat), 0)) else (none)) else (none)) else (none)) else (none)) else (none))))))) else (none)) else (none)) else (none))) else (none))) = some (r1, r2, r3, r4, r5, r6, r7, r8, r9, r10, r11, r12) := by rw [if_neg (show ¬ (false = true) by decide)] at H; exact H
             clear H
             have H := H1
             clear H1
             by_cases c30 : (l0.length : Int) < t280
             ·
              rw [if_pos c30] at H
              have c30b0 : decide ((l0.length : Int) < t280) = true := decide_eq_true c30
              clear c30
              simp only [Option.some.injEq, Prod.mk.injEq] at H
              obtain ⟨rfl, rfl, rfl, rfl, rfl, rfl, rfl, rfl, rfl, rfl, rfl, rfl⟩ := H
              have hcz31 := blk_cell BK270.out
              have hfz31 := blk_frozen BK270.out
              go_wp2_with (first | ((with_reducible refine gate_store (t := 37) (p := 2) rfl ?_); refine store_event (t := 37) (p := 2) (v := ?vo_w32) (w1 := (((((((((((wc.setCell ⟨gb270, 0, none⟩ (.int .u8 0)).setCell ⟨gb270, 1, none⟩ (.int .u16 0)).setCell ⟨gb270, 2, none⟩ (.bool false)).setCell ⟨gb270, 3, none⟩ (.bool false)).setCell ⟨gb270, 4, none⟩ (.int .i64 0)).setCell ⟨gb270, 5, none⟩ (.int .u8 0)).setCell ⟨gb270, 6, none⟩ (.int .u8 0)).setCell ⟨gb270, 7, none⟩ (.int .u32 0)).setCell ⟨gb270, 8, none⟩ (.int .u32 0)).setCell ⟨gb270, 9, none⟩ (.slice none 0 0)).setCell ⟨gb270, 10, none⟩ (.slice none 0 0))) ?hg ?ho ?hn ?hr ?_; (case ho => rfl); (case hg => rfl); (case hn => rfl); (case hr => first | (go_simp; done) | (go_simp; rfl)); intro w32 hw; have n0_ : Aside0 (Kd.V (Kd.int .u8) 5 w32 w.heap.size (fun k_ => (P0_ k_ ∨ w.heap.size ≤ k_) ∧ k_ ≠ gb270) (.slice (some ad273) l0.length c0) l0) := ⟨(by rw [hw]; exact (by (with_reducible repeat (first | apply Kd.V_alloc | apply Kd.V_drewN | apply Kd.V_drew)); exact Kd.V_mono (Kd.V_far (Kd.V_far (Kd.V_far (Kd.V_far (Kd.V_far (Kd.V_far (Kd.V_far (Kd.V_far (Kd.V_far (Kd.V_far (Kd.V_far (Kd.V_mono HO_0.out (fun k_ hk => (⟨hk, hk.2⟩ : _ ∧ k_ ≠ gb270))) (fun _ hk => hk.2) _) (fun _ hk => hk.2) _) (fun _ hk => hk.2) _) (fun _ hk => hk.2) _) (fun _ hk => hk.2) _) (fun _ hk => hk.2) _) (fun _ hk => hk.2) _) (fun _ hk => hk.2) _) (fun _ hk => hk.2) _) (fun _ hk => hk.2) _) (fun _ hk => hk.2) _) (fun _ hk => ⟨hk.1.1, hk.1.2⟩)))⟩; have n1_ : Aside0 (w32.heap[gb270]? = some (.cells #[.int .u8 0, .int .u16 0, .bool false, .bool false, .int .i64 0, .int .u8 0, .int .u8 0, .int .u32 0, .int .u32 0, .slice none 0 0, .slice none 0 0] 37 (0, 0))) := ⟨(by rw [hw]; exact (by (with_reducible repeat (first | refine blk_drewN ?_ _ | refine blk_drew ?_ | refine blk_alloc ?_ _)); refine blk_put (cs := #[.int .u8 0, .int .u16 0, .bool false, .bool false, .int .i64 0, .int .u8 0, .int .u8 0, .int .u32 0, .int .u32 0, .slice none 0 0, .slice none 0 0]) ?_ 10 _ rfl; (with_reducible repeat (first | refine blk_drewN ?_ _ | refine blk_drew ?_ | refine blk_alloc ?_ _)); refine blk_put (cs := #[.int .u8 0, .int .u16 0, .bool false, .bool false, .int .i64 0, .int .u8 0, .int .u8 0, .int .u32 0, .int .u32 0, .slice none 0 0, .slice none 0 0]) ?_ 9 _ rfl; (with_reducible repeat (first | refine blk_drewN ?_ _ | refine blk_drew ?_ | refine blk_alloc ?_ _)); refine blk_put (cs := #[.int .u8 0, .int .u16 0, .bool false, .bool false, .int .i64 0, .int .u8 0, .int .u8 0, .int .u32 0, .int .u32 0, .slice none 0 0, .slice none 0 0]) ?_ 8 _ rfl; (with_reducible repeat (first | refine blk_drewN ?_ _ | refine blk_drew ?_ | refine blk_alloc ?_ _)); refine blk_put (cs := #[.int .u8 0, .int .u16 0, .bool false, .bool false, .int .i64 0, .int .u8 0, .int .u8 0, .int .u32 0, .int .u32 0, .slice none 0 0, .slice none 0 0]) ?_ 7 _ rfl; (with_reducible repeat (first | refine blk_drewN ?_ _ | refine blk_drew ?_ | refine blk_alloc ?_ _)); refine blk_put (cs := #[.int .u8 0, .int .u16 0, .bool false, .bool false, .int .i64 0, .int .u8 0, .int .u8 0, .int .u32 0, .int .u32 0, .slice none 0 0, .slice none 0 0]) ?_ 6 _ rfl; (with_reducible repeat (first | refine blk_drewN ?_ _ | refine blk_drew ?_ | refine blk_alloc ?_ _)); refine blk_put (cs := #[.int .u8 0, .int .u16 0, .bool false, .bool false, .int .i64 0, .int .u8 0, .int .u8 0, .int .u32 0, .int .u32 0, .slice none 0 0, .slice none 0 0]) ?_ 5 _ rfl; (with_reducible repeat (first | refine blk_drewN ?_ _ | refine blk_drew ?_ | refine blk_alloc ?_ _)); refine blk_put (cs := #[.int .u8 0, .int .u16 0, .bool false, .bool false, .int .i64 0, .int .u8 0, .int .u8 0, .int .u32 0, .int .u32 0, .slice none 0 0, .slice none 0 0]) ?_ 4 _ rfl; (with_reducible repeat (first | refine blk_drewN ?_ _ | refine blk_drew ?_ | refine blk_alloc ?_ _)); refine blk_put (cs := #[.int .u8 0, .int .u16 0, .bool false, .bool false, .int .i64 0, .int .u8 0, .int .u8 0, .int .u32 0, .int .u32 0, .slice none 0 0, .slice none 0 0]) ?_ 3 _ rfl; (with_reducible repeat (first | refine blk_drewN ?_ _ | refine blk_drew ?_ | refine blk_alloc ?_ _)); refine blk_put (cs := #[.int .u8 0, .int .u16 0, .bool false, .bool false, .int .i64 0, .int .u8 0, .int .u8 0, .int .u32 0, .int .u32 0, .slice none 0 0, .slice none 0 0]) ?_ 2 _ rfl; (with_reducible repeat (first | refine blk_drewN ?_ _ | refine blk_drew ?_ | refine blk_alloc ?_ _)); refine blk_put (cs := #[.int .u8 0, .int .u16 0, .bool false, .bool false, .int .i64 0, .int .u8 0, .int .u8 0, .int .u32 0, .int .u32 0, .slice none 0 0, .slice none 0 0]) ?_ 1 _ rfl; (with_reducible repeat (first | refine blk_drewN ?_ _ | refine blk_drew ?_ | refine blk_alloc ?_ _)); refine blk_put (cs := #[.int .u8 0, .int .u16 0, .bool false, .bool false, .int .i64 0, .int .u8 0, .int .u8 0, .int .u32 0, .int .u32 0, .slice none 0 0, .slice none 0 0]) ?_ 0 _ rfl; (with_reducible repeat (first | refine blk_drewN ?_ _ | refine blk_drew ?_ | refine blk_alloc ?_ _)); exact BK270.out))⟩; have n2_ : Aside0 (Below w.heap.size w w32) := ⟨(by rw [hw]; exact (by repeat (first | (with_reducible first | exact HB.out | apply below_alloc | apply pw_below_drewN | apply below_drew1 | refine below_set ?_ GE270.out) | exact HB.out)))⟩; clear hw; clear HO_0; clear BK270; clear HB; have HO_0 := n0_; have BK270 := n1_; have HB := n2_; clear n0_ n1_ n2_))
              refine bodyPost_ret (results_ct rfl _ _ gb270 37 #[.int .u8 0, .int .u16 0, .bool false, .bool false, .int .i64 0, .int .u8 0, .int .u8 0, .int .u32 0, .int .u32 0, .slice none 0 0, .slice none 0 0] (0, 0) _ rfl (by (with_reducible repeat (first | refine blk_drewN ?_ _ | refine blk_drew ?_ | refine blk_alloc ?_ _)); exact BK270.out) Try.underlying37 rfl (by kernel_rfl)) rfl ?_
              exact ⟨_, _, by first | rfl | (simp [errW_none, errW_some] <;> rfl) | (simp only [← hji17]; first | rfl | (simp [errW_none, errW_some] <;> rfl)) | (simp [*, errW_none, errW_some] <;> rfl), Kd.V_nil _ _ _ _ _, Kd.V_nil _ _ _ _ _, by repeat (first | (with_reducible first | exact HB.out | apply below_alloc | apply pw_below_drewN | apply below_drew1 | refine below_set ?_ GE270.out) | exact HB.out)⟩
             ·
              rw [if_neg c30] at H
              have c30b0 : decide ((l0.length : Int) < t280) = false := decide_eq_false c30
              clear c30
              by_cases c33 : 1 < (l0.length : Int)
              ·
               rw [if_pos c33] at H
               have c33b0 : decide (1 < (l0.length : Int)) = true := decide_eq_true c33
               have c33b1 : decide (1 < l0.length) = true := decide_eq_true (by omega)
               clear c33
               replace H := Option.bind_eq_some_iff.mp H
               obtain ⟨t283, A340, H⟩ := H
               replace H : (if 8 < (l0.length : Int) then (if 9 < (l0.length : Int) then (if 6 < (l0.length : Int) then ((towroperef06_number.f l0 6).bind fun t289 => ((towroperef06_number.f l0 12).bind fun t290 => ((towroperef06_number.f l0 14).bind fun t291 => ((towroperef06_number.f l0 16).bind fun t292 => ((towroperef06_number.f l0 18).bind fun t293 => (if 20 ≤ ji17 then (if ji17 ≤ (l0.length : Int) then (if 0 ≤ ji17 then (if ji17 ≤ t280 then (if t280 ≤ (l0.length : Int) then (some (rd l0 1, IntKind.u16.wrap (t283), ((((Int.tdiv (rd l0 6) 64) % 256) % 2) == 1), ((((Int.tdiv (rd l0 6) 32) % 256) % 2) == 1), Int.tmod t289 8192, rd l0 8, rd l0 9, (wrap64 ((wrap64 (65536 * t290)) + t291)) % 4294967296, (wrap64 ((wrap64 (65536 * t292)) + t293)) % 4294967296, ((l0.take (ji17 : Int).toNat).drop 20), ((l0.take (t280 : Int).toNat).drop (ji17 : Int).toNat), 0)) else (none)) else (none)) else (none)) else (none)) else (none))))))) else (none)) else (none)) else (none)) = some (r1, r2, r3, r4, r5, r6, r7, r8, r9, r10, r11, r12) := H
               have A34 := Aside0.mk A340
               clear A340
               by_cases c35 : 8 < (l0.length : Int)
               ·
                rw [if_pos c35] at H
                have c35b0 : decide (8 < (l0.length : Int)) = true := decide_eq_true c35
                have c35b1 : decide (8 < l0.length) = true := decide_eq_true (by omega)
                clear c35
                by_cases c36 : 9 < (l0.length : Int)
                ·
                 rw [if_pos c36] at H
                 have c36b0 : decide (9 < (l0.length : Int)) = true := decide_eq_true c36
                 have c36b1 : decide (9 < l0.length) = true := decide_eq_true (by omega)
                 clear c36
                 by_cases c37 : 6 < (l0.length : Int)
                 ·
                  rw [if_pos c37] at H
                  have c37b0 : decide (6 < (l0.length : Int)) = true := decide_eq_true c37
                  have c37b1 : decide (6 < l0.length) = true := decide_eq_true (by omega)
                  clear c37
                  replace H := Option.bind_eq_some_iff.mp H
                  obtain ⟨t289, A380, H⟩ := H
                  replace H : ((towroperef06_number.f l0 12).bind fun t290 => ((towroperef06_number.f l0 14).bind fun t291 => ((towroperef06_number.f l0 16).bind fun t292 => ((towroperef06_number.f l0 18).bind fun t293 => (if 20 ≤ ji17 then (if ji17 ≤ (l0.length : Int) then (if 0 ≤ ji17 then (if ji17 ≤ t280 then (if t280 ≤ (l0.length : Int) then (some (rd l0 1, IntKind.u16.wrap (t283), ((((Int.tdiv (rd l0 6) 64) % 256) % 2) == 1), ((((Int.tdiv (rd l0 6) 32) % 256) % 2) == 1), Int.tmod t289 8192, rd l0 8, rd l0 9, (wrap64 ((wrap64 (65536 * t290)) + t291)) % 4294967296, (wrap64 ((wrap64 (65536 * t292)) + t293)) % 4294967296, ((l0.take (ji17 : Int).toNat).drop 20), ((l0.take (t280 : Int).toNat).drop (ji17 : Int).toNat), 0)) else (none)) else (none)) else (none)) else (none)) else (none)))))) = some (r1, r2, r3, r4, r5, r6, r7, r8, r9, r10, r11, r12) := H
                  have A38 := Aside0.mk A380
                  clear A380
                  replace H := Option.bind_eq_some_iff.mp H
                  obtain ⟨t290, A390, H⟩ := H
                  replace H : ((towroperef06_number.f l0 14).bind fun t291 => ((towroperef06_number.f l0 16).bind fun t292 => ((towroperef06_number.f l0 18).bind fun t293 => (if 20 ≤ ji17 then (if ji17 ≤ (l0.length : Int) then (if 0 ≤ ji17 then (if ji17 ≤ t280 then (if t280 ≤ (l0.length : Int) then (some (rd l0 1, IntKind.u16.wrap (t283), ((((Int.tdiv (rd l0 6) 64) % 256) % 2) == 1), ((((Int.tdiv (rd l0 6) 32) % 256) % 2) == 1), Int.tmod t289 8192, rd l0 8, rd l0 9, (wrap64 ((wrap64 (65536 * t290)) + t291)) % 4294967296, (wrap64 ((wrap64 (65536 * t292)) + t293)) % 4294967296, ((l0.take (ji17 : Int).toNat).drop 20), ((l0.take (t280 : Int).toNat).drop (ji17 : Int).toNat), 0)) else (none)) else (none)) else (none)) else (none)) else (none))))) = some (r1, r2, r3, r4, r5, r6, r7, r8, r9, r10, r11, r12) := H
                  have A39 := Aside0.mk A390
                  clear A390
                  replace H := Option.bind_eq_some_iff.mp H
                  obtain ⟨t291, A400, H⟩ := H
                  replace H : ((towroperef06_number.f l0 16).bind fun t292 => ((towroperef06_number.f l0 18).bind fun t293 => (if 20 ≤ ji17 then (if ji17 ≤ (l0.length : Int) then (if 0 ≤ ji17 then (if ji17 ≤ t280 then (if t280 ≤ (l0.length : Int) then (some (rd l0 1, IntKind.u16.wrap (t283), ((((Int.tdiv (rd l0 6) 64) % 256) % 2) == 1), ((((Int.tdiv (rd l0 6) 32) % 256) % 2) == 1), Int.tmod t289 8192, rd l0 8, rd l0 9, (wrap64 ((wrap64 (65536 * t290)) + t291)) % 4294967296, (wrap64 ((wrap64 (65536 * t292)) + t293)) % 4294967296, ((l0.take (ji17 : Int).toNat).drop 20), ((l0.take (t280 : Int).toNat).drop (ji17 : Int).toNat), 0)) else (none)) else (none)) else (none)) else (none)) else (none)))) = some (r1, r2, r3, r4, r5, r6, r7, r8, r9, r10, r11, r12) := H
                  have A40 := Aside0.mk A400
                  clear A400
                  replace H := Option.bind_eq_some_iff.mp H
                  obtain ⟨t292, A410, H⟩ := H
                  replace H : ((towroperef06_number.f l0 18).bind fun t293 => (if 20 ≤ ji17 then (if ji17 ≤ (l0.length : Int) then (if 0 ≤ ji17 then (if ji17 ≤ t280 then (if t280 ≤ (l0.length : Int) then (some (rd l0 1, IntKind.u16.wrap (t283), ((((Int.tdiv (rd l0 6) 64) % 256) % 2) == 1), ((((Int.tdiv (rd l0 6) 32) % 256) % 2) == 1), Int.tmod t289 8192, rd l0 8, rd l0 9, (wrap64 ((wrap64 (65536 * t290)) + t291)) % 4294967296, (wrap64 ((wrap64 (65536 * t292)) + t293)) % 4294967296, ((l0.take (ji17 : Int).toNat).drop 20), ((l0.take (t280 : Int).toNat).drop (ji17 : Int).toNat), 0)) else (none)) else (none)) else (none)) else (none)) else (none))) = some (r1, r2, r3, r4, r5, r6, r7, r8, r9, r10, r11, r12) := H
                  have A41 := Aside0.mk A410
                  clear A410
                  replace H := Option.bind_eq_some_iff.mp H
                  obtain ⟨t293, A420, H⟩ := H
                  replace H : (if 20 ≤ ji17 then (if ji17 ≤ (l0.length : Int) then (if 0 ≤ ji17 then (if ji17 ≤ t280 then (if t280 ≤ (l0.length : Int) then (some (rd l0 1, IntKind.u16.wrap (t283), ((((Int.tdiv (rd l0 6) 64) % 256) % 2) == 1), ((((Int.tdiv (rd l0 6) 32) % 256) % 2) == 1), Int.tmod t289 8192, rd l0 8, rd l0 9, (wrap64 ((wrap64 (65536 * t290)) + t291)) % 4294967296, (wrap64 ((wrap64 (65536 * t292)) + t293)) % 4294967296, ((l0.take (ji17 : Int).toNat).drop 20), ((l0.take (t280 : Int).toNat).drop (ji17 : Int).toNat), 0)) else (none)) else (none)) else (none)) else (none)) else (none)) = some (r1, r2, r3, r4, r5, r6, r7, r8, r9, r10, r11, r12) := H
                  have A42 := Aside0.mk A420
                  clear A420
                  by_cases c43 : 20 ≤ ji17
                  ·
                   rw [if_pos c43] at H
                   have c43b0 := eq_true c43
                   have c43b1 : decide (20 ≤ ji17) = true := decide_eq_true c43
                   clear c43
                   by_cases c44 : ji17 ≤ (l0.length : Int)
                   ·
                    rw [if_pos c44] at H
                    have c44b0 := eq_true c44
                    have c44b1 : decide (ji17 ≤ (l0.length : Int)) = true := decide_eq_true c44
                    clear c44
                    obtain ⟨y294, hy294⟩ : ∃ y_ : List Int, y_ = ((l0.take (ji17 : Int).toNat).drop 20) := ⟨_, rfl⟩
                    replace H : (if 0 ≤ ji17 then (if ji17 ≤ t280 then (if t280 ≤ (l0.length : Int) then (some (rd l0 1, IntKind.u16.wrap (t283), ((((Int.tdiv (rd l0 6) 64) % 256) % 2) == 1), ((((Int.tdiv (rd l0 6) 32) % 256) % 2) == 1), Int.tmod t289 8192, rd l0 8, rd l0 9, (wrap64 ((wrap64 (65536 * t290)) + t291)) % 4294967296, (wrap64 ((wrap64 (65536 * t292)) + t293)) % 4294967296, y294, ((l0.take (t280 : Int).toNat).drop (ji17 : Int).toNat), 0)) else (none)) else (none)) else (none)) = some (r1, r2, r3, r4, r5, r6, r7, r8, r9, r10, r11, r12) := by first | (rw [hy294]; with_reducible exact H) | (have H2_ := (Option.bind_some _ _).symm.trans H; rw [hy294]; with_reducible exact H2_) | (have H2_ := (Option.bind_some _ _).symm.trans H; with_reducible exact H2_) | with_reducible exact H | (rw [hy294]; exact H) | exact H
                    have Ny294 := Aside0.mk hy294
                    clear hy294
                    by_cases c45 : 0 ≤ ji17
                    ·
                     rw [if_pos c45] at H
                     have c45b0 := eq_true c45
                     have c45b1 : decide (0 ≤ ji17) = true := decide_eq_true c45
                     clear c45
                     by_cases c46 : ji17 ≤ t280
                     ·
                      rw [if_pos c46] at H
                      have c46b0 := eq_true c46
                      have c46b1 : decide (ji17 ≤ t280) = true := decide_eq_true c46
                      clear c46
                      by_cases c47 : t280 ≤ (l0.length : Int)
                      ·
                       rw [if_pos c47] at H
                       have c47b0 := eq_true c47
                       have c47b1 : decide (t280 ≤ (l0.length : Int)) = true := decide_eq_true c47
                       clear c47
                       obtain ⟨y299, hy299⟩ : ∃ y_ : List Int, y_ = ((l0.take (t280 : Int).toNat).drop (ji17 : Int).toNat) := ⟨_, rfl⟩
                       replace H : (some (rd l0 1, IntKind.u16.wrap (t283), ((((Int.tdiv (rd l0 6) 64) % 256) % 2) == 1), ((((Int.tdiv (rd l0 6) 32) % 256) % 2) == 1), Int.tmod t289 8192, rd l0 8, rd l0 9, (wrap64 ((wrap64 (65536 * t290)) + t291)) % 4294967296, (wrap64 ((wrap64 (65536 * t292)) + t293)) % 4294967296, y294, y299, 0)) = some (r1, r2, r3, r4, r5, r6, r7, r8, r9, r10, r11, r12) := by first | (rw [hy299]; with_reducible exact H) | (have H2_ := (Option.bind_some _ _).symm.trans H; rw [hy299]; with_reducible exact H2_) | (have H2_ := (Option.bind_some _ _).symm.trans H; with_reducible exact H2_) | with_reducible exact H | (rw [hy299]; exact H) | exact H
                       have Ny299 := Aside0.mk hy299
                       clear hy299
                       simp only [Option.some.injEq, Prod.mk.injEq] at H
                       obtain ⟨rfl, rfl, rfl, rfl, rfl, rfl, rfl, rfl, rfl, rfl, rfl, rfl⟩ := H
                       try go_wp2
                       have n0_ := Aside0.mk (Kd.V_drew HO_0.out)
                       have n1_ := Aside0.mk (blk_drew BK270.out)
                       have n2_ := Aside0.mk (below_drew1 HB.out)
                       clear HO_0
                       clear BK270
                       clear HB
                       have HO_0 := n0_
                       have BK270 := n1_
                       have HB := n2_
                       clear n0_ n1_ n2_
                       have p282 : 0 ≤ (1 : Int) := (by omega)
                       have q282 : 1 < (l0.length : Int) := of_decide_eq_true (by first | (with_reducible assumption) | assumption)
                       obtain ⟨ad282, e282, hx282_0⟩ := Kd.at_int (Kd.V_reads' HO_0.out).2.2 1 p282 q282
                       obtain rfl : ad273 = ad282 := (by injection e282)
                       (try simp only [show (1 : Int).toNat = 1 from rfl, Nat.reduceMul, Nat.reduceEqDiff, Go.Addr.add, ↓reduceIte] at hx282_0)
                       have qi282 : (1 < l0.length) = True := eq_true (by omega)
                       (try rw [show ((1 : Int)).toNat = 1 from rfl] at hx282_0)
                       replace p282 := eq_true p282
                       replace q282 := eq_true q282
                       have p284 : 0 ≤ (8 : Int) := (by omega)
                       have q284 : 8 < (l0.length : Int) := of_decide_eq_true (by first | (with_reducible assumption) | assumption)
                       obtain ⟨ad284, e284, hx284_0⟩ := Kd.at_int (Kd.V_reads' HO_0.out).2.2 8 p284 q284
                       obtain rfl : ad273 = ad284 := (by injection e284)
                       (try simp only [show (8 : Int).toNat = 8 from rfl, Nat.reduceMul, Nat.reduceEqDiff, Go.Addr.add, ↓reduceIte] at hx284_0)
                       have qi284 : (8 < l0.length) = True := eq_true (by omega)
                       (try rw [show ((8 : Int)).toNat = 8 from rfl] at hx284_0)
                       replace p284 := eq_true p284
                       replace q284 := eq_true q284
                       have p285 : 0 ≤ (9 : Int) := (by omega)
                       have q285 : 9 < (l0.length : Int) := of_decide_eq_true (by first | (with_reducible assumption) | assumption)
                       obtain ⟨ad285, e285, hx285_0⟩ := Kd.at_int (Kd.V_reads' HO_0.out).2.2 9 p285 q285
                       obtain rfl : ad273 = ad285 := (by injection e285)
                       (try simp only [show (9 : Int).toNat = 9 from rfl, Nat.reduceMul, Nat.reduceEqDiff, Go.Addr.add, ↓reduceIte] at hx285_0)
                       have qi285 : (9 < l0.length) = True := eq_true (by omega)
                       (try rw [show ((9 : Int)).toNat = 9 from rfl] at hx285_0)
                       replace p285 := eq_true p285
                       replace q285 := eq_true q285
                       refine start_ (n := 15) (S := fun w' => w'.cell? ⟨ad273.block, ad273.off + 1, none⟩ = some (.int .u8 (rd l0 1)) ∧ w'.cell? ⟨ad273.block, ad273.off + 8, none⟩ = some (.int .u8 (rd l0 8)) ∧ w'.cell? ⟨ad273.block, ad273.off + 9, none⟩ = some (.int .u8 (rd l0 9))) (ds := []) (bb 15 0) (by kernel_rfl) rfl rfl ⟨hx282_0, hx284_0, hx285_0⟩ (fun hHeld => ?_); refine with_tabW towroperef06_Get.tab15 towroperef06_Get.bits15 (fun HT_ HW_ => ?_)
                       generalize wc.drew = w48 at HO_0 BK270 HB hx282_0 hx284_0 hx285_0 hHeld ⊢
                       refine pure_ (i := 0) (N := some 56) (v := ?_) (a' := ?_) (bb 15 1) rfl rfl (any_of HT_.out (by kernel_rfl)) (fun _ _ _ h => h) (Or.inl ⟨by rfl, ?_⟩) ?_ ?_
                       rotate_left
                       ·
                        intro w'
                        go_simp
                        with_reducible rfl
                       rotate_left
                       ·
                        simp only [Act.put, List.setIfInBounds_toArray, List.set_cons_zero, List.set_cons_succ, i64_w, i32_w]
                        rfl
                       refine pure_ (i := 1) (N := some 57) (v := ?_) (a' := ?_) (bb 15 3) rfl rfl (any_of HT_.out (by kernel_rfl)) (fun _ _ _ h => h) (Or.inl ⟨by rfl, ?_⟩) ?_ ?_
                       rotate_left
                       ·
                        intro w'
                        go_simp
                        with_reducible rfl
                       rotate_left
                       ·
                        simp only [Act.put, List.setIfInBounds_toArray, List.set_cons_zero, List.set_cons_succ, i64_w, i32_w]
                        rfl
                       refine pure_ (i := 3) (N := some 59) (v := ?_) (a' := ?_) (bb 15 11) rfl rfl (any_of HT_.out (by kernel_rfl)) (fun _ _ _ h => h) (Or.inl ⟨by rfl, ?_⟩) ?_ ?_
                       rotate_left
                       ·
                        intro w'
                        go_simp
                        with_reducible rfl
                       rotate_left
                       ·
                        simp only [Act.put, List.setIfInBounds_toArray, List.set_cons_zero, List.set_cons_succ, i64_w, i32_w]
                        rfl
                       refine pure_ (i := 6) (N := some 62) (v := ?_) (a' := ?_) (bb 15 75) rfl rfl (any_of HT_.out (by kernel_rfl)) (fun _ _ _ h => h) (Or.inl ⟨by rfl, ?_⟩) ?_ ?_
                       rotate_left
                       ·
                        intro w'
                        go_simp
                        with_reducible rfl
                       rotate_left
                       ·
                        simp only [Act.put, List.setIfInBounds_toArray, List.set_cons_zero, List.set_cons_succ, i64_w, i32_w]
                        rfl
                       refine pure_ (i := 7) (N := some 63) (v := ?_) (a' := ?_) (bb 15 203) rfl rfl (any_of HT_.out (by kernel_rfl)) (fun _ _ _ h => h) (Or.inl ⟨by rfl, ?_⟩) ?_ ?_
                       rotate_left
                       ·
                        intro w'
                        go_simp
                        with_reducible rfl
                       rotate_left
                       ·
                        simp only [Act.put, List.setIfInBounds_toArray, List.set_cons_zero, List.set_cons_succ, i64_w, i32_w]
                        rfl
                       refine pure_ (i := 9) (N := some 65) (v := ?_) (a' := ?_) (bb 15 715) rfl rfl (any_of HT_.out (by kernel_rfl)) (fun _ _ _ h => h) (Or.inl ⟨by rfl, ?_⟩) ?_ ?_
                       rotate_left
                       ·
                        intro w'
                        go_simp
                        with_reducible rfl
                       rotate_left
                       ·
                        simp only [Act.put, List.setIfInBounds_toArray, List.set_cons_zero, List.set_cons_succ, i64_w, i32_w]
                        rfl
                       refine pure_ (i := 10) (N := some 66) (v := ?_) (a' := ?_) (bb 15 1739) rfl rfl (any_of HT_.out (by kernel_rfl)) (fun _ _ _ h => h) (Or.inl ⟨by rfl, ?_⟩) ?_ ?_
                       rotate_left
                       ·
                        intro w'
                        go_simp
                        with_reducible rfl
                       rotate_left
                       ·
                        simp only [Act.put, List.setIfInBounds_toArray, List.set_cons_zero, List.set_cons_succ, i64_w, i32_w]
                        rfl
                       refine take_ (i := 2) (N := some 58) (v := ?_) (a' := ?_) (bb 15 1743) rfl rfl (take_ofW HT_.out HW_.out (by kernel_rfl)) (fun _ _ _ h => h) (Or.inl ⟨by rfl, ?_⟩) hHeld ?_ ?_
                       rotate_left
                       ·
                        rintro w' ⟨s0, s1, s2⟩
                        go_simp
                        with_reducible rfl
                       rotate_left
                       ·
                        simp only [Act.put, List.setIfInBounds_toArray, List.set_cons_zero, List.set_cons_succ, i64_w, i32_w]
                        rfl
                       refine take_ (i := 8) (N := some 64) (v := ?_) (a' := ?_) (bb 15 1999) rfl rfl (take_ofW HT_.out HW_.out (by kernel_rfl)) (fun _ _ _ h => h) (Or.inl ⟨by rfl, ?_⟩) hHeld ?_ ?_
                       rotate_left
                       ·
                        rintro w' ⟨s0, s1, s2⟩
                        go_simp
                        with_reducible rfl
                       rotate_left
                       ·
                        simp only [Act.put, List.setIfInBounds_toArray, List.set_cons_zero, List.set_cons_succ, i64_w, i32_w]
                        rfl
                       refine take_ (i := 11) (N := some 67) (v := ?_) (a' := ?_) (bb 15 4047) rfl rfl (take_ofW HT_.out HW_.out (by kernel_rfl)) (fun _ _ _ h => h) (Or.inl ⟨by rfl, ?_⟩) hHeld ?_ ?_
                       rotate_left
                       ·
                        rintro w' ⟨s0, s1, s2⟩
                        go_simp
                        with_reducible rfl
                       rotate_left
                       ·
                        simp only [Act.put, List.setIfInBounds_toArray, List.set_cons_zero, List.set_cons_succ, i64_w, i32_w]
                        rfl
                       refine join_ (σ := Nat) 1 (bb 15 16383) (fun s_ => [(60, .int .i64 t283), (6, .pointer (some ⟨s_, 0, none⟩)), (61, .int .u16 (IntKind.u16.wrap (t283))), (68, .agg #[.int .u8 (rd l0 1), .int .u16 (IntKind.u16.wrap (t283)), .bool false, .bool false, .int .i64 0, .int .u8 (rd l0 8), .int .u8 (rd l0 9), .int .u32 0, .int .u32 0, .slice none 0 0, .slice none 0 0])]) (fun s_ w' => (w'.cell? ⟨ad273.block, ad273.off + 1, none⟩ = some (.int .u8 (rd l0 1)) ∧ w'.cell? ⟨ad273.block, ad273.off + 8, none⟩ = some (.int .u8 (rd l0 8)) ∧ w'.cell? ⟨ad273.block, ad273.off + 9, none⟩ = some (.int .u8 (rd l0 9))) ∧ (Kd.V (Kd.int .u8) 5 w' w.heap.size (fun k_ => (P0_ k_ ∨ w.heap.size ≤ k_) ∧ k_ ≠ gb270 ∧ k_ ≠ s_) (.slice (some ad273) l0.length c0) l0) ∧ (w'.heap[gb270]? = some (.cells #[.int .u8 0, .int .u16 0, .bool false, .bool false, .int .i64 0, .int .u8 0, .int .u8 0, .int .u32 0, .int .u32 0, .slice none 0 0, .slice none 0 0] 37 (0, 0))) ∧ (w'.heap[s_]? = some (.cells #[.int .u8 0, .int .u16 0, .bool false, .bool false, .int .i64 0, .int .u8 0, .int .u8 0, .int .u32 0, .int .u32 0, .slice none 0 0, .slice none 0 0] 37 (0, 0))) ∧ (w.heap.size ≤ s_) ∧ (w.heap.size ≤ s_) ∧ (gb270 ≠ s_) ∧ (s_ ≠ gb270) ∧ (Below w.heap.size w w')) ?_ ?_
                       rotate_left
                       ·
                        intro hCont
                        refine two_ (i := 4) (j := 13) (Ni := some 60) (Nj := some 6) (bb 15 4063) (bb 15 12239) rfl rfl rfl rfl (two_of HT_.out (by kernel_rfl)) (by decide) (by decide) (fun K hK => ?_) (fun K hK => ?_)
                        ·
                         skip
                         refine goes_ Try.func58 (by kernel_rfl) rfl #[.slice (some ad273) l0.length c0, .int .i64 4] (by rfl) rfl rfl (by (try simp only [List.map_toArray, List.map_cons, List.map_nil]); first | done | rfl | (simp only [List.length_drop, List.length_take]; rfl) | (go_simp; done) | (go_simp; omega)) ?_
                         with_reducible refine (towroperef06_number.calls _ _ l0 4 t283 _ ?side1 ?side2 A34.out).mono ?_
                         (case side1 => repeat (first | exact (Kd.V_reads' HO_0.out).2.2 | (with_reducible refine Kd.C_alloc ?_ _) | (with_reducible refine Kd.C_drewN ?_ _) | (with_reducible refine Kd.C_drew ?_)))
                         (case side2 => exact (Kd.V_reads' HO_0.out).2.1)
                         rintro e w' ⟨rfl, ⟨nd, rfl⟩⟩
                         refine ⟨_, rfl, ?_⟩
                         refine hK.out _ _ ⟨hHeld.1, hHeld.2.1, hHeld.2.2⟩ (fun hHeld => ?_)
                         clear hK K
                         refine norm_ (a' := ?_) ?_ ?_
                         rotate_left
                         ·
                          show Act.put _ (some 60) _ = _
                          simp only [Act.put, List.setIfInBounds_toArray, List.set_cons_zero, List.set_cons_succ, i64_w, i32_w]
                          rfl
                         refine pure_ (i := 5) (N := some 61) (v := ?_) (a' := ?_) (bb 15 4095) rfl rfl (any_of HT_.out (by kernel_rfl)) (fun _ _ _ h => h) (Or.inl ⟨by rfl, ?_⟩) ?_ ?_
                         rotate_left
                         ·
                          intro w'
                          go_simp
                          with_reducible rfl
                         rotate_left
                         ·
                          simp only [Act.put, List.setIfInBounds_toArray, List.set_cons_zero, List.set_cons_succ, i64_w, i32_w]
                          rfl
                         refine pure_ (i := 12) (N := some 68) (v := ?_) (a' := ?_) (bb 15 8191) rfl rfl (any_of HT_.out (by kernel_rfl)) (fun _ _ _ h => h) (Or.inl ⟨by rfl, ?_⟩) ?_ ?_
                         rotate_left
                         ·
                          intro w'
                          go_simp
                          with_reducible rfl
                         rotate_left
                         ·
                          simp only [Act.put, List.setIfInBounds_toArray, List.set_cons_zero, List.set_cons_succ, i64_w, i32_w]
                          rfl
                         refine one_ (i := 13) (N := some 6) (bb 15 16383) rfl rfl (one_of HT_.out (by kernel_rfl)) (by decide) (fun K hK => ?_)
                         refine box_step ?hg (N := 6) ?hd (cs := #[.int .u8 0, .int .u16 0, .bool false, .bool false, .int .i64 0, .int .u8 0, .int .u8 0, .int .u32 0, .int .u32 0, .slice none 0 0, .slice none 0 0]) (t := 37) ?hr ?_; (case hd => rfl); (case hg => rfl); (case hr => first | (go_simp; done) | (go_simp; rfl))
                         intro gb286 hg w49 hbox hb
                         have HS0_ := (hb.cell (World.block_lt_of_cell? _ _ (hHeld.1))).trans (hHeld.1)
                         have HS1_ := (hb.cell (World.block_lt_of_cell? _ _ (hHeld.2.1))).trans (hHeld.2.1)
                         have HS2_ := (hb.cell (World.block_lt_of_cell? _ _ (hHeld.2.2))).trans (hHeld.2.2)
                         have n0_ := Aside0.mk (Kd.V_below (Kd.V_elderB (by (with_reducible repeat (first | apply Kd.V_alloc | apply Kd.V_drewN | apply Kd.V_drew)); exact HO_0.out) gb286 (Nat.le_of_eq hg.symm)) hb)
                         have n1_ := Aside0.mk (blk_below (g := gb270) (o := .cells #[.int .u8 0, .int .u16 0, .bool false, .bool false, .int .i64 0, .int .u8 0, .int .u8 0, .int .u32 0, .int .u32 0, .slice none 0 0, .slice none 0 0] 37 (0, 0)) (by (with_reducible repeat (first | refine blk_drewN ?_ _ | refine blk_drew ?_ | refine blk_alloc ?_ _)); exact BK270.out) hb)
                         have n2_ := Aside0.mk (below_step (by repeat (first | (with_reducible first | exact HB.out | apply below_alloc | apply pw_below_drewN | apply below_drew1 | refine below_set ?_ GE270.out) | exact HB.out)) hb)
                         have n3_ := Aside0.mk (hbox)
                         have n4_ := Aside0.mk ((by rw [hg]; exact (below_size (by repeat (first | (with_reducible first | exact HB.out | apply below_alloc | apply pw_below_drewN | apply below_drew1 | refine below_set ?_ GE270.out) | exact HB.out))) : w.heap.size ≤ gb286))
                         have n5_ := Aside0.mk ((by rw [hg]; exact (below_size (by repeat (first | (with_reducible first | exact HB.out | apply below_alloc | apply pw_below_drewN | apply below_drew1 | refine below_set ?_ GE270.out) | exact HB.out))) : w.heap.size ≤ gb286))
                         have n6_ := Aside0.mk ((by rw [hg]; exact Nat.ne_of_lt (blk_lt (g := gb270) (o := .cells #[.int .u8 0, .int .u16 0, .bool false, .bool false, .int .i64 0, .int .u8 0, .int .u8 0, .int .u32 0, .int .u32 0, .slice none 0 0, .slice none 0 0] 37 (0, 0)) (by (with_reducible repeat (first | refine blk_drewN ?_ _ | refine blk_drew ?_ | refine blk_alloc ?_ _)); exact BK270.out)) : gb270 ≠ gb286))
                         have n7_ := Aside0.mk ((by rw [hg]; exact Nat.ne_of_gt (blk_lt (g := gb270) (o := .cells #[.int .u8 0, .int .u16 0, .bool false, .bool false, .int .i64 0, .int .u8 0, .int .u8 0, .int .u32 0, .int .u32 0, .slice none 0 0, .slice none 0 0] 37 (0, 0)) (by (with_reducible repeat (first | refine blk_drewN ?_ _ | refine blk_drew ?_ | refine blk_alloc ?_ _)); exact BK270.out)) : gb286 ≠ gb270))
                         clear HO_0
                         clear BK270
                         clear HB
                         have HO_0 := n0_
                         have BK270 := n1_
                         have HB := n2_
                         have BK286 := n3_
                         have GW286 := n4_
                         have GE286 := n5_
                         have NB270_286 := n6_
                         have NB286_270 := n7_
                         clear n0_ n1_ n2_ n3_ n4_ n5_ n6_ n7_
                         clear hb hbox hg
                         refine hK.out _ _ ⟨HS0_, HS1_, HS2_⟩ (fun hHeld => ?_)
                         clear hK K
                         refine norm_ (a' := ?_) ?_ ?_
                         rotate_left
                         ·
                          show Act.put _ (some 6) _ = _
                          simp only [Act.put, List.setIfInBounds_toArray, List.set_cons_zero, List.set_cons_succ, i64_w, i32_w]
                          rfl
                         exact norm_ (by simp only [putAll, Act.put, List.setIfInBounds_toArray, List.set_cons_zero, List.set_cons_succ]) (hCont (gb286) _ ⟨hHeld, (by (with_reducible repeat (first | apply Kd.V_alloc | apply Kd.V_drewN | apply Kd.V_drew)); exact Kd.V_mono HO_0.out (fun _ hk => ⟨hk.1.1, ⟨hk.1.2, hk.2⟩⟩)), (by (with_reducible repeat (first | refine blk_drewN ?_ _ | refine blk_drew ?_ | refine blk_alloc ?_ _)); exact BK270.out), (by (with_reducible repeat (first | refine blk_drewN ?_ _ | refine blk_drew ?_ | refine blk_alloc ?_ _)); exact BK286.out), GW286.out, GE286.out, NB270_286.out, NB286_270.out, (by repeat (first | (with_reducible first | exact HB.out | apply below_alloc | apply pw_below_drewN | apply below_drew1 | refine below_set ?_ GE270.out | refine below_set ?_ GE286.out) | exact HB.out))⟩)
                        ·
                         skip
                         refine box_step ?hg (N := 6) ?hd (cs := #[.int .u8 0, .int .u16 0, .bool false, .bool false, .int .i64 0, .int .u8 0, .int .u8 0, .int .u32 0, .int .u32 0, .slice none 0 0, .slice none 0 0]) (t := 37) ?hr ?_; (case hd => rfl); (case hg => rfl); (case hr => first | (go_simp; done) | (go_simp; rfl))
                         intro gb286 hg w49 hbox hb
                         have HS0_ := (hb.cell (World.block_lt_of_cell? _ _ (hHeld.1))).trans (hHeld.1)
                         have HS1_ := (hb.cell (World.block_lt_of_cell? _ _ (hHeld.2.1))).trans (hHeld.2.1)
                         have HS2_ := (hb.cell (World.block_lt_of_cell? _ _ (hHeld.2.2))).trans (hHeld.2.2)
                         have n0_ := Aside0.mk (Kd.V_below (Kd.V_elderB (by (with_reducible repeat (first | apply Kd.V_alloc | apply Kd.V_drewN | apply Kd.V_drew)); exact HO_0.out) gb286 (Nat.le_of_eq hg.symm)) hb)
                         have n1_ := Aside0.mk (blk_below (g := gb270) (o := .cells #[.int .u8 0, .int .u16 0, .bool false, .bool false, .int .i64 0, .int .u8 0, .int .u8 0, .int .u32 0, .int .u32 0, .slice none 0 0, .slice none 0 0] 37 (0, 0)) (by (with_reducible repeat (first | refine blk_drewN ?_ _ | refine blk_drew ?_ | refine blk_alloc ?_ _)); exact BK270.out) hb)
                         have n2_ := Aside0.mk (below_step (by repeat (first | (with_reducible first | exact HB.out | apply below_alloc | apply pw_below_drewN | apply below_drew1 | refine below_set ?_ GE270.out) | exact HB.out)) hb)
                         have n3_ := Aside0.mk (hbox)
                         have n4_ := Aside0.mk ((by rw [hg]; exact (below_size (by repeat (first | (with_reducible first | exact HB.out | apply below_alloc | apply pw_below_drewN | apply below_drew1 | refine below_set ?_ GE270.out) | exact HB.out))) : w.heap.size ≤ gb286))
                         have n5_ := Aside0.mk ((by rw [hg]; exact (below_size (by repeat (first | (with_reducible first | exact HB.out | apply below_alloc | apply pw_below_drewN | apply below_drew1 | refine below_set ?_ GE270.out) | exact HB.out))) : w.heap.size ≤ gb286))
                         have n6_ := Aside0.mk ((by rw [hg]; exact Nat.ne_of_lt (blk_lt (g := gb270) (o := .cells #[.int .u8 0, .int .u16 0, .bool false, .bool false, .int .i64 0, .int .u8 0, .int .u8 0, .int .u32 0, .int .u32 0, .slice none 0 0, .slice none 0 0] 37 (0, 0)) (by (with_reducible repeat (first | refine blk_drewN ?_ _ | refine blk_drew ?_ | refine blk_alloc ?_ _)); exact BK270.out)) : gb270 ≠ gb286))
                         have n7_ := Aside0.mk ((by rw [hg]; exact Nat.ne_of_gt (blk_lt (g := gb270) (o := .cells #[.int .u8 0, .int .u16 0, .bool false, .bool false, .int .i64 0, .int .u8 0, .int .u8 0, .int .u32 0, .int .u32 0, .slice none 0 0, .slice none 0 0] 37 (0, 0)) (by (with_reducible repeat (first | refine blk_drewN ?_ _ | refine blk_drew ?_ | refine blk_alloc ?_ _)); exact BK270.out)) : gb286 ≠ gb270))
                         clear HO_0
                         clear BK270
                         clear HB
                         have HO_0 := n0_
                         have BK270 := n1_
                         have HB := n2_
                         have BK286 := n3_
                         have GW286 := n4_
                         have GE286 := n5_
                         have NB270_286 := n6_
                         have NB286_270 := n7_
                         clear n0_ n1_ n2_ n3_ n4_ n5_ n6_ n7_
                         clear hb hbox hg
                         refine hK.out _ _ ⟨HS0_, HS1_, HS2_⟩ (fun hHeld => ?_)
                         clear hK K
                         refine norm_ (a' := ?_) ?_ ?_
                         rotate_left
                         ·
                          show Act.put _ (some 6) _ = _
                          simp only [Act.put, List.setIfInBounds_toArray, List.set_cons_zero, List.set_cons_succ, i64_w, i32_w]
                          rfl
                         refine one_ (i := 4) (N := some 60) (bb 15 12255) rfl rfl (one_of HT_.out (by kernel_rfl)) (by decide) (fun K hK => ?_)
                         refine goes_ Try.func58 (by kernel_rfl) rfl #[.slice (some ad273) l0.length c0, .int .i64 4] (by rfl) rfl rfl (by (try simp only [List.map_toArray, List.map_cons, List.map_nil]); first | done | rfl | (simp only [List.length_drop, List.length_take]; rfl) | (go_simp; done) | (go_simp; omega)) ?_
                         with_reducible refine (towroperef06_number.calls _ _ l0 4 t283 _ ?side1 ?side2 A34.out).mono ?_
                         (case side1 => repeat (first | exact (Kd.V_reads' HO_0.out).2.2 | (with_reducible refine Kd.C_alloc ?_ _) | (with_reducible refine Kd.C_drewN ?_ _) | (with_reducible refine Kd.C_drew ?_)))
                         (case side2 => exact (Kd.V_reads' HO_0.out).2.1)
                         rintro e w' ⟨rfl, ⟨nd, rfl⟩⟩
                         refine ⟨_, rfl, ?_⟩
                         refine hK.out _ _ ⟨hHeld.1, hHeld.2.1, hHeld.2.2⟩ (fun hHeld => ?_)
                         clear hK K
                         refine norm_ (a' := ?_) ?_ ?_
                         rotate_left
                         ·
                          show Act.put _ (some 60) _ = _
                          simp only [Act.put, List.setIfInBounds_toArray, List.set_cons_zero, List.set_cons_succ, i64_w, i32_w]
                          rfl
                         refine pure_ (i := 5) (N := some 61) (v := ?_) (a' := ?_) (bb 15 12287) rfl rfl (any_of HT_.out (by kernel_rfl)) (fun _ _ _ h => h) (Or.inl ⟨by rfl, ?_⟩) ?_ ?_
                         rotate_left
                         ·
                          intro w'
                          go_simp
                          with_reducible rfl
                         rotate_left
                         ·
                          simp only [Act.put, List.setIfInBounds_toArray, List.set_cons_zero, List.set_cons_succ, i64_w, i32_w]
                          rfl
                         refine pure_ (i := 12) (N := some 68) (v := ?_) (a' := ?_) (bb 15 16383) rfl rfl (any_of HT_.out (by kernel_rfl)) (fun _ _ _ h => h) (Or.inl ⟨by rfl, ?_⟩) ?_ ?_
                         rotate_left
                         ·
                          intro w'
                          go_simp
                          with_reducible rfl
                         rotate_left
                         ·
                          simp only [Act.put, List.setIfInBounds_toArray, List.set_cons_zero, List.set_cons_succ, i64_w, i32_w]
                          rfl
                         exact norm_ (by simp only [putAll, Act.put, List.setIfInBounds_toArray, List.set_cons_zero, List.set_cons_succ]) (hCont (gb286) _ ⟨hHeld, (by (with_reducible repeat (first | apply Kd.V_alloc | apply Kd.V_drewN | apply Kd.V_drew)); exact Kd.V_mono HO_0.out (fun _ hk => ⟨hk.1.1, ⟨hk.1.2, hk.2⟩⟩)), (by (with_reducible repeat (first | refine blk_drewN ?_ _ | refine blk_drew ?_ | refine blk_alloc ?_ _)); exact BK270.out), (by (with_reducible repeat (first | refine blk_drewN ?_ _ | refine blk_drew ?_ | refine blk_alloc ?_ _)); exact BK286.out), GW286.out, GE286.out, NB270_286.out, NB286_270.out, (by repeat (first | (with_reducible first | exact HB.out | apply below_alloc | apply pw_below_drewN | apply below_drew1 | refine below_set ?_ GE270.out | refine below_set ?_ GE286.out) | exact HB.out))⟩)
                       rintro gb286 w50 ⟨hS_, h0_, h1_, h2_, h3_, h4_, h5_, h6_, h7_⟩
                       have n0_ : Aside0 (Kd.V (Kd.int .u8) 5 w50 w.heap.size (fun k_ => (P0_ k_ ∨ w.heap.size ≤ k_) ∧ k_ ≠ gb270 ∧ k_ ≠ gb286) (.slice (some ad273) l0.length c0) l0) := ⟨h0_⟩
                       have n1_ : Aside0 (w50.heap[gb270]? = some (.cells #[.int .u8 0, .int .u16 0, .bool false, .bool false, .int .i64 0, .int .u8 0, .int .u8 0, .int .u32 0, .int .u32 0, .slice none 0 0, .slice none 0 0] 37 (0, 0))) := ⟨h1_⟩
                       have n2_ : Aside0 (w50.heap[gb286]? = some (.cells #[.int .u8 0, .int .u16 0, .bool false, .bool false, .int .i64 0, .int .u8 0, .int .u8 0, .int .u32 0, .int .u32 0, .slice none 0 0, .slice none 0 0] 37 (0, 0))) := ⟨h2_⟩
                       have n3_ : Aside0 (w.heap.size ≤ gb286) := ⟨h3_⟩
                       have n4_ : Aside0 (w.heap.size ≤ gb286) := ⟨h4_⟩
                       have n5_ : Aside0 (gb270 ≠ gb286) := ⟨h5_⟩
                       have n6_ : Aside0 (gb286 ≠ gb270) := ⟨h6_⟩
                       have n7_ : Aside0 (Below w.heap.size w w50) := ⟨h7_⟩
                       clear HO_0
                       clear BK270
                       clear HB
                       clear h0_ h1_ h2_ h3_ h4_ h5_ h6_ h7_
                       have HO_0 := n0_
                       have BK270 := n1_
                       have BK286 := n2_
                       have GW286 := n3_
                       have GE286 := n4_
                       have NB270_286 := n5_
                       have NB286_270 := n6_
                       have HB := n7_
                       clear n0_ n1_ n2_ n3_ n4_ n5_ n6_ n7_
                       have hHeld : w50.cell? ⟨ad273.block, ad273.off + 1, none⟩ = some (.int .u8 (rd l0 1)) ∧ w50.cell? ⟨ad273.block, ad273.off + 8, none⟩ = some (.int .u8 (rd l0 8)) ∧ w50.cell? ⟨ad273.block, ad273.off + 9, none⟩ = some (.int .u8 (rd l0 9)) := hS_
                       refine norm_ (a' := ?_) ?_ ?_
                       rotate_left
                       ·
                        simp only [putAll, Act.put, List.setIfInBounds_toArray, List.set_cons_zero, List.set_cons_succ]
                        rfl
                       refine one_ (i := 14) (N := none) (bb 15 32767) rfl rfl (one_of HT_.out (by kernel_rfl)) (by decide) (fun K hK => ?_)
                       have hs51 : w50.cell? ⟨gb286, 0, none⟩ = some (.int .u8 0) := (blk_cell BK286.out 0).trans rfl
                       have hfs51 := blk_frozen BK286.out 0
                       have hns51_0 := NB270_286.out
                       have hms51_0 := NB286_270.out
                       have hs52 : w50.cell? ⟨gb286, 1, none⟩ = some (.int .u16 0) := (blk_cell BK286.out 1).trans rfl
                       have hfs52 := blk_frozen BK286.out 1
                       have hns52_0 := NB270_286.out
                       have hms52_0 := NB286_270.out
                       have hs53 : w50.cell? ⟨gb286, 2, none⟩ = some (.bool false) := (blk_cell BK286.out 2).trans rfl
                       have hfs53 := blk_frozen BK286.out 2
                       have hns53_0 := NB270_286.out
                       have hms53_0 := NB286_270.out
                       have hs54 : w50.cell? ⟨gb286, 3, none⟩ = some (.bool false) := (blk_cell BK286.out 3).trans rfl
                       have hfs54 := blk_frozen BK286.out 3
                       have hns54_0 := NB270_286.out
                       have hms54_0 := NB286_270.out
                       have hs55 : w50.cell? ⟨gb286, 4, none⟩ = some (.int .i64 0) := (blk_cell BK286.out 4).trans rfl
                       have hfs55 := blk_frozen BK286.out 4
                       have hns55_0 := NB270_286.out
                       have hms55_0 := NB286_270.out
                       have hs56 : w50.cell? ⟨gb286, 5, none⟩ = some (.int .u8 0) := (blk_cell BK286.out 5).trans rfl
                       have hfs56 := blk_frozen BK286.out 5
                       have hns56_0 := NB270_286.out
                       have hms56_0 := NB286_270.out
                       have hs57 : w50.cell? ⟨gb286, 6, none⟩ = some (.int .u8 0) := (blk_cell BK286.out 6).trans rfl
                       have hfs57 := blk_frozen BK286.out 6
                       have hns57_0 := NB270_286.out
                       have hms57_0 := NB286_270.out
                       have hs58 : w50.cell? ⟨gb286, 7, none⟩ = some (.int .u32 0) := (blk_cell BK286.out 7).trans rfl
                       have hfs58 := blk_frozen BK286.out 7
                       have hns58_0 := NB270_286.out
                       have hms58_0 := NB286_270.out
                       have hs59 : w50.cell? ⟨gb286, 8, none⟩ = some (.int .u32 0) := (blk_cell BK286.out 8).trans rfl
                       have hfs59 := blk_frozen BK286.out 8
                       have hns59_0 := NB270_286.out
                       have hms59_0 := NB286_270.out
                       have hs60 : w50.cell? ⟨gb286, 9, none⟩ = some (.slice none 0 0) := (blk_cell BK286.out 9).trans rfl
                       have hfs60 := blk_frozen BK286.out 9
                       have hns60_0 := NB270_286.out
                       have hms60_0 := NB286_270.out
                       have hs61 : w50.cell? ⟨gb286, 10, none⟩ = some (.slice none 0 0) := (blk_cell BK286.out 10).trans rfl
                       have hfs61 := blk_frozen BK286.out 10
                       have hns61_0 := NB270_286.out
                       have hms61_0 := NB286_270.out
                       refine skip_ (w1 := ?_) (by rfl) rfl ?_ ?_
                       rotate_left
                       ·
                        go_simp
                        rfl
                       refine hK.out _ _ ⟨((cell_far (p := ⟨gb286, _, none⟩) (by first | exact Kd.own_blk (Kd.V_away HO_0.out (fun _ hk => hk.2.2)) | (rw [add_block]; exact Kd.own_blk (Kd.V_away HO_0.out (fun _ hk => hk.2.2))) | (show (Addr.add _ _).block ≠ _; rw [add_block]; exact Kd.own_blk (Kd.V_away HO_0.out (fun _ hk => hk.2.2))) | (dsimp only; exact Kd.own_blk (Kd.V_away HO_0.out (fun _ hk => hk.2.2)))) _).trans (((cell_far (p := ⟨gb286, _, none⟩) (by first | exact Kd.own_blk (Kd.V_away HO_0.out (fun _ hk => hk.2.2)) | (rw [add_block]; exact Kd.own_blk (Kd.V_away HO_0.out (fun _ hk => hk.2.2))) | (show (Addr.add _ _).block ≠ _; rw [add_block]; exact Kd.own_blk (Kd.V_away HO_0.out (fun _ hk => hk.2.2))) | (dsimp only; exact Kd.own_blk (Kd.V_away HO_0.out (fun _ hk => hk.2.2)))) _).trans (((cell_far (p := ⟨gb286, _, none⟩) (by first | exact Kd.own_blk (Kd.V_away HO_0.out (fun _ hk => hk.2.2)) | (rw [add_block]; exact Kd.own_blk (Kd.V_away HO_0.out (fun _ hk => hk.2.2))) | (show (Addr.add _ _).block ≠ _; rw [add_block]; exact Kd.own_blk (Kd.V_away HO_0.out (fun _ hk => hk.2.2))) | (dsimp only; exact Kd.own_blk (Kd.V_away HO_0.out (fun _ hk => hk.2.2)))) _).trans (((cell_far (p := ⟨gb286, _, none⟩) (by first | exact Kd.own_blk (Kd.V_away HO_0.out (fun _ hk => hk.2.2)) | (rw [add_block]; exact Kd.own_blk (Kd.V_away HO_0.out (fun _ hk => hk.2.2))) | (show (Addr.add _ _).block ≠ _; rw [add_block]; exact Kd.own_blk (Kd.V_away HO_0.out (fun _ hk => hk.2.2))) | (dsimp only; exact Kd.own_blk (Kd.V_away HO_0.out (fun _ hk => hk.2.2)))) _).trans (((cell_far (p := ⟨gb286, _, none⟩) (by first | exact Kd.own_blk (Kd.V_away HO_0.out (fun _ hk => hk.2.2)) | (rw [add_block]; exact Kd.own_blk (Kd.V_away HO_0.out (fun _ hk => hk.2.2))) | (show (Addr.add _ _).block ≠ _; rw [add_block]; exact Kd.own_blk (Kd.V_away HO_0.out (fun _ hk => hk.2.2))) | (dsimp only; exact Kd.own_blk (Kd.V_away HO_0.out (fun _ hk => hk.2.2)))) _).trans (((cell_far (p := ⟨gb286, _, none⟩) (by first | exact Kd.own_blk (Kd.V_away HO_0.out (fun _ hk => hk.2.2)) | (rw [add_block]; exact Kd.own_blk (Kd.V_away HO_0.out (fun _ hk => hk.2.2))) | (show (Addr.add _ _).block ≠ _; rw [add_block]; exact Kd.own_blk (Kd.V_away HO_0.out (fun _ hk => hk.2.2))) | (dsimp only; exact Kd.own_blk (Kd.V_away HO_0.out (fun _ hk => hk.2.2)))) _).trans (((cell_far (p := ⟨gb286, _, none⟩) (by first | exact Kd.own_blk (Kd.V_away HO_0.out (fun _ hk => hk.2.2)) | (rw [add_block]; exact Kd.own_blk (Kd.V_away HO_0.out (fun _ hk => hk.2.2))) | (show (Addr.add _ _).block ≠ _; rw [add_block]; exact Kd.own_blk (Kd.V_away HO_0.out (fun _ hk => hk.2.2))) | (dsimp only; exact Kd.own_blk (Kd.V_away HO_0.out (fun _ hk => hk.2.2)))) _).trans (((cell_far (p := ⟨gb286, _, none⟩) (by first | exact Kd.own_blk (Kd.V_away HO_0.out (fun _ hk => hk.2.2)) | (rw [add_block]; exact Kd.own_blk (Kd.V_away HO_0.out (fun _ hk => hk.2.2))) | (show (Addr.add _ _).block ≠ _; rw [add_block]; exact Kd.own_blk (Kd.V_away HO_0.out (fun _ hk => hk.2.2))) | (dsimp only; exact Kd.own_blk (Kd.V_away HO_0.out (fun _ hk => hk.2.2)))) _).trans (((cell_far (p := ⟨gb286, _, none⟩) (by first | exact Kd.own_blk (Kd.V_away HO_0.out (fun _ hk => hk.2.2)) | (rw [add_block]; exact Kd.own_blk (Kd.V_away HO_0.out (fun _ hk => hk.2.2))) | (show (Addr.add _ _).block ≠ _; rw [add_block]; exact Kd.own_blk (Kd.V_away HO_0.out (fun _ hk => hk.2.2))) | (dsimp only; exact Kd.own_blk (Kd.V_away HO_0.out (fun _ hk => hk.2.2)))) _).trans (((cell_far (p := ⟨gb286, _, none⟩) (by first | exact Kd.own_blk (Kd.V_away HO_0.out (fun _ hk => hk.2.2)) | (rw [add_block]; exact Kd.own_blk (Kd.V_away HO_0.out (fun _ hk => hk.2.2))) | (show (Addr.add _ _).block ≠ _; rw [add_block]; exact Kd.own_blk (Kd.V_away HO_0.out (fun _ hk => hk.2.2))) | (dsimp only; exact Kd.own_blk (Kd.V_away HO_0.out (fun _ hk => hk.2.2)))) _).trans (((cell_far (p := ⟨gb286, _, none⟩) (by first | exact Kd.own_blk (Kd.V_away HO_0.out (fun _ hk => hk.2.2)) | (rw [add_block]; exact Kd.own_blk (Kd.V_away HO_0.out (fun _ hk => hk.2.2))) | (show (Addr.add _ _).block ≠ _; rw [add_block]; exact Kd.own_blk (Kd.V_away HO_0.out (fun _ hk => hk.2.2))) | (dsimp only; exact Kd.own_blk (Kd.V_away HO_0.out (fun _ hk => hk.2.2)))) _).trans (hHeld.1)))))))))))))))))))))), ((cell_far (p := ⟨gb286, _, none⟩) (by first | exact Kd.own_blk (Kd.V_away HO_0.out (fun _ hk => hk.2.2)) | (rw [add_block]; exact Kd.own_blk (Kd.V_away HO_0.out (fun _ hk => hk.2.2))) | (show (Addr.add _ _).block ≠ _; rw [add_block]; exact Kd.own_blk (Kd.V_away HO_0.out (fun _ hk => hk.2.2))) | (dsimp only; exact Kd.own_blk (Kd.V_away HO_0.out (fun _ hk => hk.2.2)))) _).trans (((cell_far (p := ⟨gb286, _, none⟩) (by first | exact Kd.own_blk (Kd.V_away HO_0.out (fun _ hk => hk.2.2)) | (rw [add_block]; exact Kd.own_blk (Kd.V_away HO_0.out (fun _ hk => hk.2.2))) | (show (Addr.add _ _).block ≠ _; rw [add_block]; exact Kd.own_blk (Kd.V_away HO_0.out (fun _ hk => hk.2.2))) | (dsimp only; exact Kd.own_blk (Kd.V_away HO_0.out (fun _ hk => hk.2.2)))) _).trans (((cell_far (p := ⟨gb286, _, none⟩) (by first | exact Kd.own_blk (Kd.V_away HO_0.out (fun _ hk => hk.2.2)) | (rw [add_block]; exact Kd.own_blk (Kd.V_away HO_0.out (fun _ hk => hk.2.2))) | (show (Addr.add _ _).block ≠ _; rw [add_block]; exact Kd.own_blk (Kd.V_away HO_0.out (fun _ hk => hk.2.2))) | (dsimp only; exact Kd.own_blk (Kd.V_away HO_0.out (fun _ hk => hk.2.2)))) _).trans (((cell_far (p := ⟨gb286, _, none⟩) (by first | exact Kd.own_blk (Kd.V_away HO_0.out (fun _ hk => hk.2.2)) | (rw [add_block]; exact Kd.own_blk (Kd.V_away HO_0.out (fun _ hk => hk.2.2))) | (show (Addr.add _ _).block ≠ _; rw [add_block]; exact Kd.own_blk (Kd.V_away HO_0.out (fun _ hk => hk.2.2))) | (dsimp only; exact Kd.own_blk (Kd.V_away HO_0.out (fun _ hk => hk.2.2)))) _).trans (((cell_far (p := ⟨gb286, _, none⟩) (by first | exact Kd.own_blk (Kd.V_away HO_0.out (fun _ hk => hk.2.2)) | (rw [add_block]; exact Kd.own_blk (Kd.V_away HO_0.out (fun _ hk => hk.2.2))) | (show (Addr.add _ _).block ≠ _; rw [add_block]; exact Kd.own_blk (Kd.V_away HO_0.out (fun _ hk => hk.2.2))) | (dsimp only; exact Kd.own_blk (Kd.V_away HO_0.out (fun _ hk => hk.2.2)))) _).trans (((cell_far (p := ⟨gb286, _, none⟩) (by first | exact Kd.own_blk (Kd.V_away HO_0.out (fun _ hk => hk.2.2)) | (rw [add_block]; exact Kd.own_blk (Kd.V_away HO_0.out (fun _ hk => hk.2.2))) | (show (Addr.add _ _).block ≠ _; rw [add_block]; exact Kd.own_blk (Kd.V_away HO_0.out (fun _ hk => hk.2.2))) | (dsimp only; exact Kd.own_blk (Kd.V_away HO_0.out (fun _ hk => hk.2.2)))) _).trans (((cell_far (p := ⟨gb286, _, none⟩) (by first | exact Kd.own_blk (Kd.V_away HO_0.out (fun _ hk => hk.2.2)) | (rw [add_block]; exact Kd.own_blk (Kd.V_away HO_0.out (fun _ hk => hk.2.2))) | (show (Addr.add _ _).block ≠ _; rw [add_block]; exact Kd.own_blk (Kd.V_away HO_0.out (fun _ hk => hk.2.2))) | (dsimp only; exact Kd.own_blk (Kd.V_away HO_0.out (fun _ hk => hk.2.2)))) _).trans (((cell_far (p := ⟨gb286, _, none⟩) (by first | exact Kd.own_blk (Kd.V_away HO_0.out (fun _ hk => hk.2.2)) | (rw [add_block]; exact Kd.own_blk (Kd.V_away HO_0.out (fun _ hk => hk.2.2))) | (show (Addr.add _ _).block ≠ _; rw [add_block]; exact Kd.own_blk (Kd.V_away HO_0.out (fun _ hk => hk.2.2))) | (dsimp only; exact Kd.own_blk (Kd.V_away HO_0.out (fun _ hk => hk.2.2)))) _).trans (((cell_far (p := ⟨gb286, _, none⟩) (by first | exact Kd.own_blk (Kd.V_away HO_0.out (fun _ hk => hk.2.2)) | (rw [add_block]; exact Kd.own_blk (Kd.V_away HO_0.out (fun _ hk => hk.2.2))) | (show (Addr.add _ _).block ≠ _; rw [add_block]; exact Kd.own_blk (Kd.V_away HO_0.out (fun _ hk => hk.2.2))) | (dsimp only; exact Kd.own_blk (Kd.V_away HO_0.out (fun _ hk => hk.2.2)))) _).trans (((cell_far (p := ⟨gb286, _, none⟩) (by first | exact Kd.own_blk (Kd.V_away HO_0.out (fun _ hk => hk.2.2)) | (rw [add_block]; exact Kd.own_blk (Kd.V_away HO_0.out (fun _ hk => hk.2.2))) | (show (Addr.add _ _).block ≠ _; rw [add_block]; exact Kd.own_blk (Kd.V_away HO_0.out (fun _ hk => hk.2.2))) | (dsimp only; exact Kd.own_blk (Kd.V_away HO_0.out (fun _ hk => hk.2.2)))) _).trans (((cell_far (p := ⟨gb286, _, none⟩) (by first | exact Kd.own_blk (Kd.V_away HO_0.out (fun _ hk => hk.2.2)) | (rw [add_block]; exact Kd.own_blk (Kd.V_away HO_0.out (fun _ hk => hk.2.2))) | (show (Addr.add _ _).block ≠ _; rw [add_block]; exact Kd.own_blk (Kd.V_away HO_0.out (fun _ hk => hk.2.2))) | (dsimp only; exact Kd.own_blk (Kd.V_away HO_0.out (fun _ hk => hk.2.2)))) _).trans (hHeld.2.1)))))))))))))))))))))), ((cell_far (p := ⟨gb286, _, none⟩) (by first | exact Kd.own_blk (Kd.V_away HO_0.out (fun _ hk => hk.2.2)) | (rw [add_block]; exact Kd.own_blk (Kd.V_away HO_0.out (fun _ hk => hk.2.2))) | (show (Addr.add _ _).block ≠ _; rw [add_block]; exact Kd.own_blk (Kd.V_away HO_0.out (fun _ hk => hk.2.2))) | (dsimp only; exact Kd.own_blk (Kd.V_away HO_0.out (fun _ hk => hk.2.2)))) _).trans (((cell_far (p := ⟨gb286, _, none⟩) (by first | exact Kd.own_blk (Kd.V_away HO_0.out (fun _ hk => hk.2.2)) | (rw [add_block]; exact Kd.own_blk (Kd.V_away HO_0.out (fun _ hk => hk.2.2))) | (show (Addr.add _ _).block ≠ _; rw [add_block]; exact Kd.own_blk (Kd.V_away HO_0.out (fun _ hk => hk.2.2))) | (dsimp only; exact Kd.own_blk (Kd.V_away HO_0.out (fun _ hk => hk.2.2)))) _).trans (((cell_far (p := ⟨gb286, _, none⟩) (by first | exact Kd.own_blk (Kd.V_away HO_0.out (fun _ hk => hk.2.2)) | (rw [add_block]; exact Kd.own_blk (Kd.V_away HO_0.out (fun _ hk => hk.2.2))) | (show (Addr.add _ _).block ≠ _; rw [add_block]; exact Kd.own_blk (Kd.V_away HO_0.out (fun _ hk => hk.2.2))) | (dsimp only; exact Kd.own_blk (Kd.V_away HO_0.out (fun _ hk => hk.2.2)))) _).trans (((cell_far (p := ⟨gb286, _, none⟩) (by first | exact Kd.own_blk (Kd.V_away HO_0.out (fun _ hk => hk.2.2)) | (rw [add_block]; exact Kd.own_blk (Kd.V_away HO_0.out (fun _ hk => hk.2.2))) | (show (Addr.add _ _).block ≠ _; rw [add_block]; exact Kd.own_blk (Kd.V_away HO_0.out (fun _ hk => hk.2.2))) | (dsimp only; exact Kd.own_blk (Kd.V_away HO_0.out (fun _ hk => hk.2.2)))) _).trans (((cell_far (p := ⟨gb286, _, none⟩) (by first | exact Kd.own_blk (Kd.V_away HO_0.out (fun _ hk => hk.2.2)) | (rw [add_block]; exact Kd.own_blk (Kd.V_away HO_0.out (fun _ hk => hk.2.2))) | (show (Addr.add _ _).block ≠ _; rw [add_block]; exact Kd.own_blk (Kd.V_away HO_0.out (fun _ hk => hk.2.2))) | (dsimp only; exact Kd.own_blk (Kd.V_away HO_0.out (fun _ hk => hk.2.2)))) _).trans (((cell_far (p := ⟨gb286, _, none⟩) (by first | exact Kd.own_blk (Kd.V_away HO_0.out (fun _ hk => hk.2.2)) | (rw [add_block]; exact Kd.own_blk (Kd.V_away HO_0.out (fun _ hk => hk.2.2))) | (show (Addr.add _ _).block ≠ _; rw [add_block]; exact Kd.own_blk (Kd.V_away HO_0.out (fun _ hk => hk.2.2))) | (dsimp only; exact Kd.own_blk (Kd.V_away HO_0.out (fun _ hk => hk.2.2)))) _).trans (((cell_far (p := ⟨gb286, _, none⟩) (by first | exact Kd.own_blk (Kd.V_away HO_0.out (fun _ hk => hk.2.2)) | (rw [add_block]; exact Kd.own_blk (Kd.V_away HO_0.out (fun _ hk => hk.2.2))) | (show (Addr.add _ _).block ≠ _; rw [add_block]; exact Kd.own_blk (Kd.V_away HO_0.out (fun _ hk => hk.2.2))) | (dsimp only; exact Kd.own_blk (Kd.V_away HO_0.out (fun _ hk => hk.2.2)))) _).trans (((cell_far (p := ⟨gb286, _, none⟩) (by first | exact Kd.own_blk (Kd.V_away HO_0.out (fun _ hk => hk.2.2)) | (rw [add_block]; exact Kd.own_blk (Kd.V_away HO_0.out (fun _ hk => hk.2.2))) | (show (Addr.add _ _).block ≠ _; rw [add_block]; exact Kd.own_blk (Kd.V_away HO_0.out (fun _ hk => hk.2.2))) | (dsimp only; exact Kd.own_blk (Kd.V_away HO_0.out (fun _ hk => hk.2.2)))) _).trans (((cell_far (p := ⟨gb286, _, none⟩) (by first | exact Kd.own_blk (Kd.V_away HO_0.out (fun _ hk => hk.2.2)) | (rw [add_block]; exact Kd.own_blk (Kd.V_away HO_0.out (fun _ hk => hk.2.2))) | (show (Addr.add _ _).block ≠ _; rw [add_block]; exact Kd.own_blk (Kd.V_away HO_0.out (fun _ hk => hk.2.2))) | (dsimp only; exact Kd.own_blk (Kd.V_away HO_0.out (fun _ hk => hk.2.2)))) _).trans (((cell_far (p := ⟨gb286, _, none⟩) (by first | exact Kd.own_blk (Kd.V_away HO_0.out (fun _ hk => hk.2.2)) | (rw [add_block]; exact Kd.own_blk (Kd.V_away HO_0.out (fun _ hk => hk.2.2))) | (show (Addr.add _ _).block ≠ _; rw [add_block]; exact Kd.own_blk (Kd.V_away HO_0.out (fun _ hk => hk.2.2))) | (dsimp only; exact Kd.own_blk (Kd.V_away HO_0.out (fun _ hk => hk.2.2)))) _).trans (((cell_far (p := ⟨gb286, _, none⟩) (by first | exact Kd.own_blk (Kd.V_away HO_0.out (fun _ hk => hk.2.2)) | (rw [add_block]; exact Kd.own_blk (Kd.V_away HO_0.out (fun _ hk => hk.2.2))) | (show (Addr.add _ _).block ≠ _; rw [add_block]; exact Kd.own_blk (Kd.V_away HO_0.out (fun _ hk => hk.2.2))) | (dsimp only; exact Kd.own_blk (Kd.V_away HO_0.out (fun _ hk => hk.2.2)))) _).trans (hHeld.2.2))))))))))))))))))))))⟩ (fun hHeld => ?_)
                       clear hK K
                       refine done_ (done_of HT_.out (by kernel_rfl)) ?_
                       have p287 : 0 ≤ (6 : Int) := (by omega)
                       have q287 : 6 < (l0.length : Int) := of_decide_eq_true (by first | (with_reducible assumption) | assumption)
                       obtain ⟨ad287, e287, hx287_0⟩ := Kd.at_int (Kd.V_reads' HO_0.out).2.2 6 p287 q287
                       obtain rfl : ad273 = ad287 := (by injection e287)
                       (try simp only [show (6 : Int).toNat = 6 from rfl, Nat.reduceMul, Nat.reduceEqDiff, Go.Addr.add, ↓reduceIte] at hx287_0)
                       have qi287 : (6 < l0.length) = True := eq_true (by omega)
                       (try rw [show ((6 : Int)).toNat = 6 from rfl] at hx287_0)
                       have hn287_0 : ad273.block ≠ gb286 := Kd.own_blk (Kd.V_away HO_0.out (fun _ hk => by first | exact hk.2 | exact hk.2.1 | exact hk.2.2 | exact hk.2.2.1 | exact hk.2.2.2 | exact hk.2.2.2.1 | exact hk.2.2.2.2 | exact hk.1.2))
                       have hn287_1 : ad273.block ≠ gb286 := Kd.own_blk (Kd.V_away HO_0.out (fun _ hk => by first | exact hk.2 | exact hk.2.1 | exact hk.2.2 | exact hk.2.2.1 | exact hk.2.2.2 | exact hk.2.2.2.1 | exact hk.2.2.2.2 | exact hk.1.2))
                       have hn287_2 : ad273.block ≠ gb286 := Kd.own_blk (Kd.V_away HO_0.out (fun _ hk => by first | exact hk.2 | exact hk.2.1 | exact hk.2.2 | exact hk.2.2.1 | exact hk.2.2.2 | exact hk.2.2.2.1 | exact hk.2.2.2.2 | exact hk.1.2))
                       have hn287_3 : ad273.block ≠ gb286 := Kd.own_blk (Kd.V_away HO_0.out (fun _ hk => by first | exact hk.2 | exact hk.2.1 | exact hk.2.2 | exact hk.2.2.1 | exact hk.2.2.2 | exact hk.2.2.2.1 | exact hk.2.2.2.2 | exact hk.1.2))
                       have hn287_4 : ad273.block ≠ gb286 := Kd.own_blk (Kd.V_away HO_0.out (fun _ hk => by first | exact hk.2 | exact hk.2.1 | exact hk.2.2 | exact hk.2.2.1 | exact hk.2.2.2 | exact hk.2.2.2.1 | exact hk.2.2.2.2 | exact hk.1.2))
                       have hn287_5 : ad273.block ≠ gb286 := Kd.own_blk (Kd.V_away HO_0.out (fun _ hk => by first | exact hk.2 | exact hk.2.1 | exact hk.2.2 | exact hk.2.2.1 | exact hk.2.2.2 | exact hk.2.2.2.1 | exact hk.2.2.2.2 | exact hk.1.2))
                       have hn287_6 : ad273.block ≠ gb286 := Kd.own_blk (Kd.V_away HO_0.out (fun _ hk => by first | exact hk.2 | exact hk.2.1 | exact hk.2.2 | exact hk.2.2.1 | exact hk.2.2.2 | exact hk.2.2.2.1 | exact hk.2.2.2.2 | exact hk.1.2))
                       have hn287_7 : ad273.block ≠ gb286 := Kd.own_blk (Kd.V_away HO_0.out (fun _ hk => by first | exact hk.2 | exact hk.2.1 | exact hk.2.2 | exact hk.2.2.1 | exact hk.2.2.2 | exact hk.2.2.2.1 | exact hk.2.2.2.2 | exact hk.1.2))
                       have hn287_8 : ad273.block ≠ gb286 := Kd.own_blk (Kd.V_away HO_0.out (fun _ hk => by first | exact hk.2 | exact hk.2.1 | exact hk.2.2 | exact hk.2.2.1 | exact hk.2.2.2 | exact hk.2.2.2.1 | exact hk.2.2.2.2 | exact hk.1.2))
                       have hn287_9 : ad273.block ≠ gb286 := Kd.own_blk (Kd.V_away HO_0.out (fun _ hk => by first | exact hk.2 | exact hk.2.1 | exact hk.2.2 | exact hk.2.2.1 | exact hk.2.2.2 | exact hk.2.2.2.1 | exact hk.2.2.2.2 | exact hk.1.2))
                       have hn287_10 : ad273.block ≠ gb286 := Kd.own_blk (Kd.V_away HO_0.out (fun _ hk => by first | exact hk.2 | exact hk.2.1 | exact hk.2.2 | exact hk.2.2.1 | exact hk.2.2.2 | exact hk.2.2.2.1 | exact hk.2.2.2.2 | exact hk.1.2))
                       replace hx287_0 := (cell_far (p := ⟨gb286, 0, none⟩) (by first | (rw [add_block]; exact hn287_0) | (show (Addr.add _ _).block ≠ _; rw [add_block]; exact hn287_0) | exact hn287_0) (.int .u8 (rd l0 1))).trans hx287_0
                       replace hx287_0 := (cell_far (p := ⟨gb286, 1, none⟩) (by first | (rw [add_block]; exact hn287_1) | (show (Addr.add _ _).block ≠ _; rw [add_block]; exact hn287_1) | exact hn287_1) (.int .u16 (IntKind.u16.wrap (t283)))).trans hx287_0
                       replace hx287_0 := (cell_far (p := ⟨gb286, 2, none⟩) (by first | (rw [add_block]; exact hn287_2) | (show (Addr.add _ _).block ≠ _; rw [add_block]; exact hn287_2) | exact hn287_2) (.bool false)).trans hx287_0
                       replace hx287_0 := (cell_far (p := ⟨gb286, 3, none⟩) (by first | (rw [add_block]; exact hn287_3) | (show (Addr.add _ _).block ≠ _; rw [add_block]; exact hn287_3) | exact hn287_3) (.bool false)).trans hx287_0
                       replace hx287_0 := (cell_far (p := ⟨gb286, 4, none⟩) (by first | (rw [add_block]; exact hn287_4) | (show (Addr.add _ _).block ≠ _; rw [add_block]; exact hn287_4) | exact hn287_4) (.int .i64 0)).trans hx287_0
                       replace hx287_0 := (cell_far (p := ⟨gb286, 5, none⟩) (by first | (rw [add_block]; exact hn287_5) | (show (Addr.add _ _).block ≠ _; rw [add_block]; exact hn287_5) | exact hn287_5) (.int .u8 (rd l0 8))).trans hx287_0
                       replace hx287_0 := (cell_far (p := ⟨gb286, 6, none⟩) (by first | (rw [add_block]; exact hn287_6) | (show (Addr.add _ _).block ≠ _; rw [add_block]; exact hn287_6) | exact hn287_6) (.int .u8 (rd l0 9))).trans hx287_0
                       replace hx287_0 := (cell_far (p := ⟨gb286, 7, none⟩) (by first | (rw [add_block]; exact hn287_7) | (show (Addr.add _ _).block ≠ _; rw [add_block]; exact hn287_7) | exact hn287_7) (.int .u32 0)).trans hx287_0
                       replace hx287_0 := (cell_far (p := ⟨gb286, 8, none⟩) (by first | (rw [add_block]; exact hn287_8) | (show (Addr.add _ _).block ≠ _; rw [add_block]; exact hn287_8) | exact hn287_8) (.int .u32 0)).trans hx287_0
                       replace hx287_0 := (cell_far (p := ⟨gb286, 9, none⟩) (by first | (rw [add_block]; exact hn287_9) | (show (Addr.add _ _).block ≠ _; rw [add_block]; exact hn287_9) | exact hn287_9) (.slice none 0 0)).trans hx287_0
                       replace hx287_0 := (cell_far (p := ⟨gb286, 10, none⟩) (by first | (rw [add_block]; exact hn287_10) | (show (Addr.add _ _).block ≠ _; rw [add_block]; exact hn287_10) | exact hn287_10) (.slice none 0 0)).trans hx287_0
                       clear hn287_0
                       clear hn287_1
                       clear hn287_2
                       clear hn287_3
                       clear hn287_4
                       clear hn287_5
                       clear hn287_6
                       clear hn287_7
                       clear hn287_8
                       clear hn287_9
                       clear hn287_10
                       replace p287 := eq_true p287
                       replace q287 := eq_true q287
                       have hnb62 := NB286_270.out
                       have hnc62 := NB270_286.out
                       have hcz63 := blk_cell BK286.out
                       have hfz63 := blk_frozen BK286.out
                       try go_wp2_with (first | ((with_reducible refine gate_store (t := 4) (p := 75) rfl ?_); refine store_event (t := 4) (p := 75) (v := ?vo_w64) (w1 := ((((((((((((w50.setCell ⟨gb286, 0, none⟩ (.int .u8 (rd l0 1))).setCell ⟨gb286, 1, none⟩ (.int .u16 (IntKind.u16.wrap (t283)))).setCell ⟨gb286, 2, none⟩ (.bool false)).setCell ⟨gb286, 3, none⟩ (.bool false)).setCell ⟨gb286, 4, none⟩ (.int .i64 0)).setCell ⟨gb286, 5, none⟩ (.int .u8 (rd l0 8))).setCell ⟨gb286, 6, none⟩ (.int .u8 (rd l0 9))).setCell ⟨gb286, 7, none⟩ (.int .u32 0)).setCell ⟨gb286, 8, none⟩ (.int .u32 0)).setCell ⟨gb286, 9, none⟩ (.slice none 0 0)).setCell ⟨gb286, 10, none⟩ (.slice none 0 0)).setCell ⟨gb286, 2, none⟩ (.bool ((((Int.tdiv (rd l0 6) 64) % 256) % 2) == 1)))) ?hg ?ho ?hn ?hr ?_; (case ho => rfl); (case hg => rfl); (case hn => rfl); (case hr => first | (go_simp; done) | (go_simp; rfl)); intro w64 hw; have n0_ : Aside0 (Kd.V (Kd.int .u8) 5 w64 w.heap.size (fun k_ => (P0_ k_ ∨ w.heap.size ≤ k_) ∧ k_ ≠ gb270 ∧ k_ ≠ gb286) (.slice (some ad273) l0.length c0) l0) := ⟨(by rw [hw]; exact (by (with_reducible repeat (first | apply Kd.V_alloc | apply Kd.V_drewN | apply Kd.V_drew)); exact Kd.V_mono (Kd.V_far (Kd.V_far (Kd.V_far (Kd.V_far (Kd.V_far (Kd.V_far (Kd.V_far (Kd.V_far (Kd.V_far (Kd.V_far (Kd.V_far (Kd.V_far (Kd.V_mono HO_0.out (fun k_ hk => (⟨hk, hk.2.2⟩ : _ ∧ k_ ≠ gb286))) (fun _ hk => hk.2) _) (fun _ hk => hk.2) _) (fun _ hk => hk.2) _) (fun _ hk => hk.2) _) (fun _ hk => hk.2) _) (fun _ hk => hk.2) _) (fun _ hk => hk.2) _) (fun _ hk => hk.2) _) (fun _ hk => hk.2) _) (fun _ hk => hk.2) _) (fun _ hk => hk.2) _) (fun _ hk => hk.2) _) (fun _ hk => ⟨hk.1.1, ⟨hk.1.2.1, hk.1.2.2⟩⟩)))⟩; have n1_ : Aside0 (w64.heap[gb270]? = some (.cells #[.int .u8 0, .int .u16 0, .bool false, .bool false, .int .i64 0, .int .u8 0, .int .u8 0, .int .u32 0, .int .u32 0, .slice none 0 0, .slice none 0 0] 37 (0, 0))) := ⟨(by rw [hw]; exact (by (with_reducible repeat (first | refine blk_drewN ?_ _ | refine blk_drew ?_ | refine blk_alloc ?_ _)); refine blk_far ?_ NB270_286.out _; (with_reducible repeat (first | refine blk_drewN ?_ _ | refine blk_drew ?_ | refine blk_alloc ?_ _)); refine blk_far ?_ NB270_286.out _; (with_reducible repeat (first | refine blk_drewN ?_ _ | refine blk_drew ?_ | refine blk_alloc ?_ _)); refine blk_far ?_ NB270_286.out _; (with_reducible repeat (first | refine blk_drewN ?_ _ | refine blk_drew ?_ | refine blk_alloc ?_ _)); refine blk_far ?_ NB270_286.out _; (with_reducible repeat (first | refine blk_drewN ?_ _ | refine blk_drew ?_ | refine blk_alloc ?_ _)); refine blk_far ?_ NB270_286.out _; (with_reducible repeat (first | refine blk_drewN ?_ _ | refine blk_drew ?_ | refine blk_alloc ?_ _)); refine blk_far ?_ NB270_286.out _; (with_reducible repeat (first | refine blk_drewN ?_ _ | refine blk_drew ?_ | refine blk_alloc ?_ _)); refine blk_far ?_ NB270_286.out _; (with_reducible repeat (first | refine blk_drewN ?_ _ | refine blk_drew ?_ | refine blk_alloc ?_ _)); refine blk_far ?_ NB270_286.out _; (with_reducible repeat (first | refine blk_drewN ?_ _ | refine blk_drew ?_ | refine blk_alloc ?_ _)); refine blk_far ?_ NB270_286.out _; (with_reducible repeat (first | refine blk_drewN ?_ _ | refine blk_drew ?_ | refine blk_alloc ?_ _)); refine blk_far ?_ NB270_286.out _; (with_reducible repeat (first | refine blk_drewN ?_ _ | refine blk_drew ?_ | refine blk_alloc ?_ _)); refine blk_far ?_ NB270_286.out _; (with_reducible repeat (first | refine blk_drewN ?_ _ | refine blk_drew ?_ | refine blk_alloc ?_ _)); refine blk_far ?_ NB270_286.out _; (with_reducible repeat (first | refine blk_drewN ?_ _ | refine blk_drew ?_ | refine blk_alloc ?_ _)); exact BK270.out))⟩; have n2_ : Aside0 (w64.heap[gb286]? = some (.cells #[.int .u8 (rd l0 1), .int .u16 (IntKind.u16.wrap (t283)), .bool ((((Int.tdiv (rd l0 6) 64) % 256) % 2) == 1), .bool false, .int .i64 0, .int .u8 (rd l0 8), .int .u8 (rd l0 9), .int .u32 0, .int .u32 0, .slice none 0 0, .slice none 0 0] 37 (0, 0))) := ⟨(by rw [hw]; exact (by (with_reducible repeat (first | refine blk_drewN ?_ _ | refine blk_drew ?_ | refine blk_alloc ?_ _)); refine blk_put (cs := #[.int .u8 (rd l0 1), .int .u16 (IntKind.u16.wrap (t283)), .bool false, .bool false, .int .i64 0, .int .u8 (rd l0 8), .int .u8 (rd l0 9), .int .u32 0, .int .u32 0, .slice none 0 0, .slice none 0 0]) ?_ 2 _ rfl; (with_reducible repeat (first | refine blk_drewN ?_ _ | refine blk_drew ?_ | refine blk_alloc ?_ _)); refine blk_put (cs := #[.int .u8 (rd l0 1), .int .u16 (IntKind.u16.wrap (t283)), .bool false, .bool false, .int .i64 0, .int .u8 (rd l0 8), .int .u8 (rd l0 9), .int .u32 0, .int .u32 0, .slice none 0 0, .slice none 0 0]) ?_ 10 _ rfl; (with_reducible repeat (first | refine blk_drewN ?_ _ | refine blk_drew ?_ | refine blk_alloc ?_ _)); refine blk_put (cs := #[.int .u8 (rd l0 1), .int .u16 (IntKind.u16.wrap (t283)), .bool false, .bool false, .int .i64 0, .int .u8 (rd l0 8), .int .u8 (rd l0 9), .int .u32 0, .int .u32 0, .slice none 0 0, .slice none 0 0]) ?_ 9 _ rfl; (with_reducible repeat (first | refine blk_drewN ?_ _ | refine blk_drew ?_ | refine blk_alloc ?_ _)); refine blk_put (cs := #[.int .u8 (rd l0 1), .int .u16 (IntKind.u16.wrap (t283)), .bool false, .bool false, .int .i64 0, .int .u8 (rd l0 8), .int .u8 (rd l0 9), .int .u32 0, .int .u32 0, .slice none 0 0, .slice none 0 0]) ?_ 8 _ rfl; (with_reducible repeat (first | refine blk_drewN ?_ _ | refine blk_drew ?_ | refine blk_alloc ?_ _)); refine blk_put (cs := #[.int .u8 (rd l0 1), .int .u16 (IntKind.u16.wrap (t283)), .bool false, .bool false, .int .i64 0, .int .u8 (rd l0 8), .int .u8 (rd l0 9), .int .u32 0, .int .u32 0, .slice none 0 0, .slice none 0 0]) ?_ 7 _ rfl; (with_reducible repeat (first | refine blk_drewN ?_ _ | refine blk_drew ?_ | refine blk_alloc ?_ _)); refine blk_put (cs := #[.int .u8 (rd l0 1), .int .u16 (IntKind.u16.wrap (t283)), .bool false, .bool false, .int .i64 0, .int .u8 (rd l0 8), .int .u8 0, .int .u32 0, .int .u32 0, .slice none 0 0, .slice none 0 0]) ?_ 6 _ rfl; (with_reducible repeat (first | refine blk_drewN ?_ _ | refine blk_drew ?_ | refine blk_alloc ?_ _)); refine blk_put (cs := #[.int .u8 (rd l0 1), .int .u16 (IntKind.u16.wrap (t283)), .bool false, .bool false, .int .i64 0, .int .u8 0, .int .u8 0, .int .u32 0, .int .u32 0, .slice none 0 0, .slice none 0 0]) ?_ 5 _ rfl; (with_reducible repeat (first | refine blk_drewN ?_ _ | refine blk_drew ?_ | refine blk_alloc ?_ _)); refine blk_put (cs := #[.int .u8 (rd l0 1), .int .u16 (IntKind.u16.wrap (t283)), .bool false, .bool false, .int .i64 0, .int .u8 0, .int .u8 0, .int .u32 0, .int .u32 0, .slice none 0 0, .slice none 0 0]) ?_ 4 _ rfl; (with_reducible repeat (first | refine blk_drewN ?_ _ | refine blk_drew ?_ | refine blk_alloc ?_ _)); refine blk_put (cs := #[.int .u8 (rd l0 1), .int .u16 (IntKind.u16.wrap (t283)), .bool false, .bool false, .int .i64 0, .int .u8 0, .int .u8 0, .int .u32 0, .int .u32 0, .slice none 0 0, .slice none 0 0]) ?_ 3 _ rfl; (with_reducible repeat (first | refine blk_drewN ?_ _ | refine blk_drew ?_ | refine blk_alloc ?_ _)); refine blk_put (cs := #[.int .u8 (rd l0 1), .int .u16 (IntKind.u16.wrap (t283)), .bool false, .bool false, .int .i64 0, .int .u8 0, .int .u8 0, .int .u32 0, .int .u32 0, .slice none 0 0, .slice none 0 0]) ?_ 2 _ rfl; (with_reducible repeat (first | refine blk_drewN ?_ _ | refine blk_drew ?_ | refine blk_alloc ?_ _)); refine blk_put (cs := #[.int .u8 (rd l0 1), .int .u16 0, .bool false, .bool false, .int .i64 0, .int .u8 0, .int .u8 0, .int .u32 0, .int .u32 0, .slice none 0 0, .slice none 0 0]) ?_ 1 _ rfl; (with_reducible repeat (first | refine blk_drewN ?_ _ | refine blk_drew ?_ | refine blk_alloc ?_ _)); refine blk_put (cs := #[.int .u8 0, .int .u16 0, .bool false, .bool false, .int .i64 0, .int .u8 0, .int .u8 0, .int .u32 0, .int .u32 0, .slice none 0 0, .slice none 0 0]) ?_ 0 _ rfl; (with_reducible repeat (first | refine blk_drewN ?_ _ | refine blk_drew ?_ | refine blk_alloc ?_ _)); exact BK286.out))⟩; have n3_ : Aside0 (Below w.heap.size w w64) := ⟨(by rw [hw]; exact (by repeat (first | (with_reducible first | exact HB.out | apply below_alloc | apply pw_below_drewN | apply below_drew1 | refine below_set ?_ GE270.out | refine below_set ?_ GE286.out) | exact HB.out)))⟩; clear hw; clear HO_0; clear BK270; clear BK286; clear HB; have HO_0 := n0_; have BK270 := n1_; have BK286 := n2_; have HB := n3_; clear n0_ n1_ n2_ n3_; have p288 : 0 ≤ (6 : Int) := (by omega); have q288 : 6 < (l0.length : Int) := of_decide_eq_true (by first | (with_reducible assumption) | assumption); obtain ⟨ad288, e288, hx288_0⟩ := Kd.at_int (Kd.V_reads' HO_0.out).2.2 6 p288 q288; obtain rfl : ad273 = ad288 := (by injection e288); (try simp only [show (6 : Int).toNat = 6 from rfl, Nat.reduceMul, Nat.reduceEqDiff, Go.Addr.add, ↓reduceIte] at hx288_0); have qi288 : (6 < l0.length) = True := eq_true (by omega); (try rw [show ((6 : Int)).toNat = 6 from rfl] at hx288_0); replace p288 := eq_true p288; replace q288 := eq_true q288; have hcz65 := blk_cell BK286.out; have hfz65 := blk_frozen BK286.out; have hfz65_10 := blk_frozen BK286.out 10) | ((with_reducible refine gate_store (t := 4) (p := 82) rfl ?_); refine store_event (t := 4) (p := 82) (v := ?vo_w66) (w1 := (w64.setCell ⟨gb286, 3, none⟩ (.bool ((((Int.tdiv (rd l0 6) 32) % 256) % 2) == 1)))) ?hg ?ho ?hn ?hr ?_; (case ho => rfl); (case hg => rfl); (case hn => rfl); (case hr => first | (go_simp; done) | (go_simp; rfl)); intro w66 hw; have n0_ : Aside0 (Kd.V (Kd.int .u8) 5 w66 w.heap.size (fun k_ => (P0_ k_ ∨ w.heap.size ≤ k_) ∧ k_ ≠ gb270 ∧ k_ ≠ gb286) (.slice (some ad273) l0.length c0) l0) := ⟨(by rw [hw]; exact (by (with_reducible repeat (first | apply Kd.V_alloc | apply Kd.V_drewN | apply Kd.V_drew)); exact Kd.V_mono (Kd.V_far (Kd.V_mono HO_0.out (fun k_ hk => (⟨hk, hk.2.2⟩ : _ ∧ k_ ≠ gb286))) (fun _ hk => hk.2) _) (fun _ hk => ⟨hk.1.1, ⟨hk.1.2.1, hk.1.2.2⟩⟩)))⟩; have n1_ : Aside0 (w66.heap[gb270]? = some (.cells #[.int .u8 0, .int .u16 0, .bool false, .bool false, .int .i64 0, .int .u8 0, .int .u8 0, .int .u32 0, .int .u32 0, .slice none 0 0, .slice none 0 0] 37 (0, 0))) := ⟨(by rw [hw]; exact (by (with_reducible repeat (first | refine blk_drewN ?_ _ | refine blk_drew ?_ | refine blk_alloc ?_ _)); refine blk_far ?_ NB270_286.out _; (with_reducible repeat (first | refine blk_drewN ?_ _ | refine blk_drew ?_ | refine blk_alloc ?_ _)); exact BK270.out))⟩; have n2_ : Aside0 (w66.heap[gb286]? = some (.cells #[.int .u8 (rd l0 1), .int .u16 (IntKind.u16.wrap (t283)), .bool ((((Int.tdiv (rd l0 6) 64) % 256) % 2) == 1), .bool ((((Int.tdiv (rd l0 6) 32) % 256) % 2) == 1), .int .i64 0, .int .u8 (rd l0 8), .int .u8 (rd l0 9), .int .u32 0, .int .u32 0, .slice none 0 0, .slice none 0 0] 37 (0, 0))) := ⟨(by rw [hw]; exact (by (with_reducible repeat (first | refine blk_drewN ?_ _ | refine blk_drew ?_ | refine blk_alloc ?_ _)); refine blk_put (cs := #[.int .u8 (rd l0 1), .int .u16 (IntKind.u16.wrap (t283)), .bool ((((Int.tdiv (rd l0 6) 64) % 256) % 2) == 1), .bool false, .int .i64 0, .int .u8 (rd l0 8), .int .u8 (rd l0 9), .int .u32 0, .int .u32 0, .slice none 0 0, .slice none 0 0]) ?_ 3 _ rfl; (with_reducible repeat (first | refine blk_drewN ?_ _ | refine blk_drew ?_ | refine blk_alloc ?_ _)); exact BK286.out))⟩; have n3_ : Aside0 (Below w.heap.size w w66) := ⟨(by rw [hw]; exact (by repeat (first | (with_reducible first | exact HB.out | apply below_alloc | apply pw_below_drewN | apply below_drew1 | refine below_set ?_ GE270.out | refine below_set ?_ GE286.out) | exact HB.out)))⟩; clear hw; clear HO_0; clear BK270; clear BK286; clear HB; have HO_0 := n0_; have BK270 := n1_; have BK286 := n2_; have HB := n3_; clear n0_ n1_ n2_ n3_) | ((with_reducible refine gate_callee (f := 58) rfl ?_); refine goesL_ (some 84) rfl rfl Try.func58 (by kernel_rfl) rfl #[.slice (some ad273) l0.length c0, .int .i64 6] rfl (by (try simp only [List.map_toArray, List.map_cons, List.map_nil]); first | done | rfl | (simp only [List.length_drop, List.length_take]; rfl) | (go_simp; done) | (go_simp; omega)) ?_; (with_reducible refine (towroperef06_number.calls _ _ l0 6 t289 _ ?side1 ?side2 A38.out).mono ?_); (case side1 => repeat (first | exact (Kd.V_reads' HO_0.out).2.2 | (with_reducible refine Kd.C_alloc ?_ _) | (with_reducible refine Kd.C_drewN ?_ _) | (with_reducible refine Kd.C_drew ?_))); (case side2 => exact (Kd.V_reads' HO_0.out).2.1); rintro e w' ⟨rfl, ⟨nd, rfl⟩⟩; refine ⟨_, rfl, ?_⟩; (try (rw [drewN_self w66]; generalize hq_ : World.drewN w66 _ = w66; have n0_ : Aside0 (Kd.V (Kd.int .u8) 5 w66 w.heap.size (fun k_ => (P0_ k_ ∨ w.heap.size ≤ k_) ∧ k_ ≠ gb270 ∧ k_ ≠ gb286) (.slice (some ad273) l0.length c0) l0) := ⟨by rw [← hq_]; exact (by (with_reducible repeat (first | apply Kd.V_alloc | apply Kd.V_drewN | apply Kd.V_drew)); exact HO_0.out)⟩; have n1_ : Aside0 (w66.heap[gb270]? = some (.cells #[.int .u8 0, .int .u16 0, .bool false, .bool false, .int .i64 0, .int .u8 0, .int .u8 0, .int .u32 0, .int .u32 0, .slice none 0 0, .slice none 0 0] 37 (0, 0))) := ⟨by rw [← hq_]; exact (by (with_reducible repeat (first | refine blk_drewN ?_ _ | refine blk_drew ?_ | refine blk_alloc ?_ _)); exact BK270.out)⟩; have n2_ : Aside0 (w66.heap[gb286]? = some (.cells #[.int .u8 (rd l0 1), .int .u16 (IntKind.u16.wrap (t283)), .bool ((((Int.tdiv (rd l0 6) 64) % 256) % 2) == 1), .bool ((((Int.tdiv (rd l0 6) 32) % 256) % 2) == 1), .int .i64 0, .int .u8 (rd l0 8), .int .u8 (rd l0 9), .int .u32 0, .int .u32 0, .slice none 0 0, .slice none 0 0] 37 (0, 0))) := ⟨by rw [← hq_]; exact (by (with_reducible repeat (first | refine blk_drewN ?_ _ | refine blk_drew ?_ | refine blk_alloc ?_ _)); exact BK286.out)⟩; have n3_ : Aside0 (Below w.heap.size w w66) := ⟨by rw [← hq_]; exact (by repeat (first | (with_reducible first | exact HB.out | apply below_alloc | apply pw_below_drewN | apply below_drew1 | refine below_set ?_ GE270.out | refine below_set ?_ GE286.out) | exact HB.out))⟩; clear HO_0 BK270 BK286 HB hq_; have HO_0 := n0_; have BK270 := n1_; have BK286 := n2_; have HB := n3_; clear n0_ n1_ n2_ n3_)); have hcz67 := blk_cell BK286.out; have hfz67 := blk_frozen BK286.out; have hfz67_10 := blk_frozen BK286.out 10) | ((with_reducible refine gate_store (t := 3) (p := 86) rfl ?_); refine store_event (t := 3) (p := 86) (v := ?vo_w68) (w1 := (w66.setCell ⟨gb286, 4, none⟩ (.int .i64 (Int.tmod t289 8192)))) ?hg ?ho ?hn ?hr ?_; (case ho => rfl); (case hg => rfl); (case hn => rfl); (case hr => first | (go_simp; done) | (go_simp; rfl)); intro w68 hw; have n0_ : Aside0 (Kd.V (Kd.int .u8) 5 w68 w.heap.size (fun k_ => (P0_ k_ ∨ w.heap.size ≤ k_) ∧ k_ ≠ gb270 ∧ k_ ≠ gb286) (.slice (some ad273) l0.length c0) l0) := ⟨(by rw [hw]; exact (by (with_reducible repeat (first | apply Kd.V_alloc | apply Kd.V_drewN | apply Kd.V_drew)); exact Kd.V_mono (Kd.V_far (Kd.V_mono HO_0.out (fun k_ hk => (⟨hk, hk.2.2⟩ : _ ∧ k_ ≠ gb286))) (fun _ hk => hk.2) _) (fun _ hk => ⟨hk.1.1, ⟨hk.1.2.1, hk.1.2.2⟩⟩)))⟩; have n1_ : Aside0 (w68.heap[gb270]? = some (.cells #[.int .u8 0, .int .u16 0, .bool false, .bool false, .int .i64 0, .int .u8 0, .int .u8 0, .int .u32 0, .int .u32 0, .slice none 0 0, .slice none 0 0] 37 (0, 0))) := ⟨(by rw [hw]; exact (by (with_reducible repeat (first | refine blk_drewN ?_ _ | refine blk_drew ?_ | refine blk_alloc ?_ _)); refine blk_far ?_ NB270_286.out _; (with_reducible repeat (first | refine blk_drewN ?_ _ | refine blk_drew ?_ | refine blk_alloc ?_ _)); exact BK270.out))⟩; have n2_ : Aside0 (w68.heap[gb286]? = some (.cells #[.int .u8 (rd l0 1), .int .u16 (IntKind.u16.wrap (t283)), .bool ((((Int.tdiv (rd l0 6) 64) % 256) % 2) == 1), .bool ((((Int.tdiv (rd l0 6) 32) % 256) % 2) == 1), .int .i64 (Int.tmod t289 8192), .int .u8 (rd l0 8), .int .u8 (rd l0 9), .int .u32 0, .int .u32 0, .slice none 0 0, .slice none 0 0] 37 (0, 0))) := ⟨(by rw [hw]; exact (by (with_reducible repeat (first | refine blk_drewN ?_ _ | refine blk_drew ?_ | refine blk_alloc ?_ _)); refine blk_put (cs := #[.int .u8 (rd l0 1), .int .u16 (IntKind.u16.wrap (t283)), .bool ((((Int.tdiv (rd l0 6) 64) % 256) % 2) == 1), .bool ((((Int.tdiv (rd l0 6) 32) % 256) % 2) == 1), .int .i64 0, .int .u8 (rd l0 8), .int .u8 (rd l0 9), .int .u32 0, .int .u32 0, .slice none 0 0, .slice none 0 0]) ?_ 4 _ rfl; (with_reducible repeat (first | refine blk_drewN ?_ _ | refine blk_drew ?_ | refine blk_alloc ?_ _)); exact BK286.out))⟩; have n3_ : Aside0 (Below w.heap.size w w68) := ⟨(by rw [hw]; exact (by repeat (first | (with_reducible first | exact HB.out | apply below_alloc | apply pw_below_drewN | apply below_drew1 | refine below_set ?_ GE270.out | refine below_set ?_ GE286.out) | exact HB.out)))⟩; clear hw; clear HO_0; clear BK270; clear BK286; clear HB; have HO_0 := n0_; have BK270 := n1_; have BK286 := n2_; have HB := n3_; clear n0_ n1_ n2_ n3_) | ((with_reducible refine gate_callee (f := 58) rfl ?_); refine goesL_ (some 88) rfl rfl Try.func58 (by kernel_rfl) rfl #[.slice (some ad273) l0.length c0, .int .i64 12] rfl (by (try simp only [List.map_toArray, List.map_cons, List.map_nil]); first | done | rfl | (simp only [List.length_drop, List.length_take]; rfl) | (go_simp; done) | (go_simp; omega)) ?_; (with_reducible refine (towroperef06_number.calls _ _ l0 12 t290 _ ?side1 ?side2 A39.out).mono ?_); (case side1 => repeat (first | exact (Kd.V_reads' HO_0.out).2.2 | (with_reducible refine Kd.C_alloc ?_ _) | (with_reducible refine Kd.C_drewN ?_ _) | (with_reducible refine Kd.C_drew ?_))); (case side2 => exact (Kd.V_reads' HO_0.out).2.1); rintro e w' ⟨rfl, ⟨nd, rfl⟩⟩; refine ⟨_, rfl, ?_⟩; (try (rw [drewN_self w68]; generalize hq_ : World.drewN w68 _ = w68; have n0_ : Aside0 (Kd.V (Kd.int .u8) 5 w68 w.heap.size (fun k_ => (P0_ k_ ∨ w.heap.size ≤ k_) ∧ k_ ≠ gb270 ∧ k_ ≠ gb286) (.slice (some ad273) l0.length c0) l0) := ⟨by rw [← hq_]; exact (by (with_reducible repeat (first | apply Kd.V_alloc | apply Kd.V_drewN | apply Kd.V_drew)); exact HO_0.out)⟩; have n1_ : Aside0 (w68.heap[gb270]? = some (.cells #[.int .u8 0, .int .u16 0, .bool false, .bool false, .int .i64 0, .int .u8 0, .int .u8 0, .int .u32 0, .int .u32 0, .slice none 0 0, .slice none 0 0] 37 (0, 0))) := ⟨by rw [← hq_]; exact (by (with_reducible repeat (first | refine blk_drewN ?_ _ | refine blk_drew ?_ | refine blk_alloc ?_ _)); exact BK270.out)⟩; have n2_ : Aside0 (w68.heap[gb286]? = some (.cells #[.int .u8 (rd l0 1), .int .u16 (IntKind.u16.wrap (t283)), .bool ((((Int.tdiv (rd l0 6) 64) % 256) % 2) == 1), .bool ((((Int.tdiv (rd l0 6) 32) % 256) % 2) == 1), .int .i64 (Int.tmod t289 8192), .int .u8 (rd l0 8), .int .u8 (rd l0 9), .int .u32 0, .int .u32 0, .slice none 0 0, .slice none 0 0] 37 (0, 0))) := ⟨by rw [← hq_]; exact (by (with_reducible repeat (first | refine blk_drewN ?_ _ | refine blk_drew ?_ | refine blk_alloc ?_ _)); exact BK286.out)⟩; have n3_ : Aside0 (Below w.heap.size w w68) := ⟨by rw [← hq_]; exact (by repeat (first | (with_reducible first | exact HB.out | apply below_alloc | apply pw_below_drewN | apply below_drew1 | refine below_set ?_ GE270.out | refine below_set ?_ GE286.out) | exact HB.out))⟩; clear HO_0 BK270 BK286 HB hq_; have HO_0 := n0_; have BK270 := n1_; have BK286 := n2_; have HB := n3_; clear n0_ n1_ n2_ n3_))) | ((with_reducible refine gate_callee (f := 58) rfl ?_); refine goesL_ (some 91) rfl rfl Try.func58 (by kernel_rfl) rfl #[.slice (some ad273) l0.length c0, .int .i64 14] rfl (by (try simp only [List.map_toArray, List.map_cons, List.map_nil]); first | done | rfl | (simp only [List.length_drop, List.length_take]; rfl) | (go_simp; done) | (go_simp; omega)) ?_; (with_reducible refine (towroperef06_number.calls _ _ l0 14 t291 _ ?side1 ?side2 A40.out).mono ?_); (case side1 => repeat (first | exact (Kd.V_reads' HO_0.out).2.2 | (with_reducible refine Kd.C_alloc ?_ _) | (with_reducible refine Kd.C_drewN ?_ _) | (with_reducible refine Kd.C_drew ?_))); (case side2 => exact (Kd.V_reads' HO_0.out).2.1); rintro e w' ⟨rfl, ⟨nd, rfl⟩⟩; refine ⟨_, rfl, ?_⟩; (try (rw [drewN_self w68]; generalize hq_ : World.drewN w68 _ = w68; have n0_ : Aside0 (Kd.V (Kd.int .u8) 5 w68 w.heap.size (fun k_ => (P0_ k_ ∨ w.heap.size ≤ k_) ∧ k_ ≠ gb270 ∧ k_ ≠ gb286) (.slice (some ad273) l0.length c0) l0) := ⟨by rw [← hq_]; exact (by (with_reducible repeat (first | apply Kd.V_alloc | apply Kd.V_drewN | apply Kd.V_drew)); exact HO_0.out)⟩; have n1_ : Aside0 (w68.heap[gb270]? = some (.cells #[.int .u8 0, .int .u16 0, .bool false, .bool false, .int .i64 0, .int .u8 0, .int .u8 0, .int .u32 0, .int .u32 0, .slice none 0 0, .slice none 0 0] 37 (0, 0))) := ⟨by rw [← hq_]; exact (by (with_reducible repeat (first | refine blk_drewN ?_ _ | refine blk_drew ?_ | refine blk_alloc ?_ _)); exact BK270.out)⟩; have n2_ : Aside0 (w68.heap[gb286]? = some (.cells #[.int .u8 (rd l0 1), .int .u16 (IntKind.u16.wrap (t283)), .bool ((((Int.tdiv (rd l0 6) 64) % 256) % 2) == 1), .bool ((((Int.tdiv (rd l0 6) 32) % 256) % 2) == 1), .int .i64 (Int.tmod t289 8192), .int .u8 (rd l0 8), .int .u8 (rd l0 9), .int .u32 0, .int .u32 0, .slice none 0 0, .slice none 0 0] 37 (0, 0))) := ⟨by rw [← hq_]; exact (by (with_reducible repeat (first | refine blk_drewN ?_ _ | refine blk_drew ?_ | refine blk_alloc ?_ _)); exact BK286.out)⟩; have n3_ : Aside0 (Below w.heap.size w w68) := ⟨by rw [← hq_]; exact (by repeat (first | (with_reducible first | exact HB.out | apply below_alloc | apply pw_below_drewN | apply below_drew1 | refine below_set ?_ GE270.out | refine below_set ?_ GE286.out) | exact HB.out))⟩; clear HO_0 BK270 BK286 HB hq_; have HO_0 := n0_; have BK270 := n1_; have BK286 := n2_; have HB := n3_; clear n0_ n1_ n2_ n3_)); have hcz69 := blk_cell BK286.out; have hfz69 := blk_frozen BK286.out; have hfz69_10 := blk_frozen BK286.out 10) | ((with_reducible refine gate_store (t := 35) (p := 94) rfl ?_); refine store_event (t := 35) (p := 94) (v := ?vo_w70) (w1 := (w68.setCell ⟨gb286, 7, none⟩ (.int .u32 ((wrap64 ((wrap64 (65536 * t290)) + t291)) % 4294967296)))) ?hg ?ho ?hn ?hr ?_; (case ho => rfl); (case hg => rfl); (case hn => rfl); (case hr => first | (go_simp; done) | (go_simp; rfl)); intro w70 hw; have n0_ : Aside0 (Kd.V (Kd.int .u8) 5 w70 w.heap.size (fun k_ => (P0_ k_ ∨ w.heap.size ≤ k_) ∧ k_ ≠ gb270 ∧ k_ ≠ gb286) (.slice (some ad273) l0.length c0) l0) := ⟨(by rw [hw]; exact (by (with_reducible repeat (first | apply Kd.V_alloc | apply Kd.V_drewN | apply Kd.V_drew)); exact Kd.V_mono (Kd.V_far (Kd.V_mono HO_0.out (fun k_ hk => (⟨hk, hk.2.2⟩ : _ ∧ k_ ≠ gb286))) (fun _ hk => hk.2) _) (fun _ hk => ⟨hk.1.1, ⟨hk.1.2.1, hk.1.2.2⟩⟩)))⟩; have n1_ : Aside0 (w70.heap[gb270]? = some (.cells #[.int .u8 0, .int .u16 0, .bool false, .bool false, .int .i64 0, .int .u8 0, .int .u8 0, .int .u32 0, .int .u32 0, .slice none 0 0, .slice none 0 0] 37 (0, 0))) := ⟨(by rw [hw]; exact (by (with_reducible repeat (first | refine blk_drewN ?_ _ | refine blk_drew ?_ | refine blk_alloc ?_ _)); refine blk_far ?_ NB270_286.out _; (with_reducible repeat (first | refine blk_drewN ?_ _ | refine blk_drew ?_ | refine blk_alloc ?_ _)); exact BK270.out))⟩; have n2_ : Aside0 (w70.heap[gb286]? = some (.cells #[.int .u8 (rd l0 1), .int .u16 (IntKind.u16.wrap (t283)), .bool ((((Int.tdiv (rd l0 6) 64) % 256) % 2) == 1), .bool ((((Int.tdiv (rd l0 6) 32) % 256) % 2) == 1), .int .i64 (Int.tmod t289 8192), .int .u8 (rd l0 8), .int .u8 (rd l0 9), .int .u32 ((wrap64 ((wrap64 (65536 * t290)) + t291)) % 4294967296), .int .u32 0, .slice none 0 0, .slice none 0 0] 37 (0, 0))) := ⟨(by rw [hw]; exact (by (with_reducible repeat (first | refine blk_drewN ?_ _ | refine blk_drew ?_ | refine blk_alloc ?_ _)); refine blk_put (cs := #[.int .u8 (rd l0 1), .int .u16 (IntKind.u16.wrap (t283)), .bool ((((Int.tdiv (rd l0 6) 64) % 256) % 2) == 1), .bool ((((Int.tdiv (rd l0 6) 32) % 256) % 2) == 1), .int .i64 (Int.tmod t289 8192), .int .u8 (rd l0 8), .int .u8 (rd l0 9), .int .u32 0, .int .u32 0, .slice none 0 0, .slice none 0 0]) ?_ 7 _ rfl; (with_reducible repeat (first | refine blk_drewN ?_ _ | refine blk_drew ?_ | refine blk_alloc ?_ _)); exact BK286.out))⟩; have n3_ : Aside0 (Below w.heap.size w w70) := ⟨(by rw [hw]; exact (by repeat (first | (with_reducible first | exact HB.out | apply below_alloc | apply pw_below_drewN | apply below_drew1 | refine below_set ?_ GE270.out | refine below_set ?_ GE286.out) | exact HB.out)))⟩; clear hw; clear HO_0; clear BK270; clear BK286; clear HB; have HO_0 := n0_; have BK270 := n1_; have BK286 := n2_; have HB := n3_; clear n0_ n1_ n2_ n3_) | ((with_reducible refine gate_callee (f := 58) rfl ?_); refine goesL_ (some 96) rfl rfl Try.func58 (by kernel_rfl) rfl #[.slice (some ad273) l0.length c0, .int .i64 16] rfl (by (try simp only [List.map_toArray, List.map_cons, List.map_nil]); first | done | rfl | (simp only [List.length_drop, List.length_take]; rfl) | (go_simp; done) | (go_simp; omega)) ?_; (with_reducible refine (towroperef06_number.calls _ _ l0 16 t292 _ ?side1 ?side2 A41.out).mono ?_); (case side1 => repeat (first | exact (Kd.V_reads' HO_0.out).2.2 | (with_reducible refine Kd.C_alloc ?_ _) | (with_reducible refine Kd.C_drewN ?_ _) | (with_reducible refine Kd.C_drew ?_))); (case side2 => exact (Kd.V_reads' HO_0.out).2.1); rintro e w' ⟨rfl, ⟨nd, rfl⟩⟩; refine ⟨_, rfl, ?_⟩; (try (rw [drewN_self w70]; generalize hq_ : World.drewN w70 _ = w70; have n0_ : Aside0 (Kd.V (Kd.int .u8) 5 w70 w.heap.size (fun k_ => (P0_ k_ ∨ w.heap.size ≤ k_) ∧ k_ ≠ gb270 ∧ k_ ≠ gb286) (.slice (some ad273) l0.length c0) l0) := ⟨by rw [← hq_]; exact (by (with_reducible repeat (first | apply Kd.V_alloc | apply Kd.V_drewN | apply Kd.V_drew)); exact HO_0.out)⟩; have n1_ : Aside0 (w70.heap[gb270]? = some (.cells #[.int .u8 0, .int .u16 0, .bool false, .bool false, .int .i64 0, .int .u8 0, .int .u8 0, .int .u32 0, .int .u32 0, .slice none 0 0, .slice none 0 0] 37 (0, 0))) := ⟨by rw [← hq_]; exact (by (with_reducible repeat (first | refine blk_drewN ?_ _ | refine blk_drew ?_ | refine blk_alloc ?_ _)); exact BK270.out)⟩; have n2_ : Aside0 (w70.heap[gb286]? = some (.cells #[.int .u8 (rd l0 1), .int .u16 (IntKind.u16.wrap (t283)), .bool ((((Int.tdiv (rd l0 6) 64) % 256) % 2) == 1), .bool ((((Int.tdiv (rd l0 6) 32) % 256) % 2) == 1), .int .i64 (Int.tmod t289 8192), .int .u8 (rd l0 8), .int .u8 (rd l0 9), .int .u32 ((wrap64 ((wrap64 (65536 * t290)) + t291)) % 4294967296), .int .u32 0, .slice none 0 0, .slice none 0 0] 37 (0, 0))) := ⟨by rw [← hq_]; exact (by (with_reducible repeat (first | refine blk_drewN ?_ _ | refine blk_drew ?_ | refine blk_alloc ?_ _)); exact BK286.out)⟩; have n3_ : Aside0 (Below w.heap.size w w70) := ⟨by rw [← hq_]; exact (by repeat (first | (with_reducible first | exact HB.out | apply below_alloc | apply pw_below_drewN | apply below_drew1 | refine below_set ?_ GE270.out | refine below_set ?_ GE286.out) | exact HB.out))⟩; clear HO_0 BK270 BK286 HB hq_; have HO_0 := n0_; have BK270 := n1_; have BK286 := n2_; have HB := n3_; clear n0_ n1_ n2_ n3_))) | ((with_reducible refine gate_callee (f := 58) rfl ?_); refine goesL_ (some 99) rfl rfl Try.func58 (by kernel_rfl) rfl #[.slice (some ad273) l0.length c0, .int .i64 18] rfl (by (try simp only [List.map_toArray, List.map_cons, List.map_nil]); first | done | rfl | (simp only [List.length_drop, List.length_take]; rfl) | (go_simp; done) | (go_simp; omega)) ?_; (with_reducible refine (towroperef06_number.calls _ _ l0 18 t293 _ ?side1 ?side2 A42.out).mono ?_); (case side1 => repeat (first | exact (Kd.V_reads' HO_0.out).2.2 | (with_reducible refine Kd.C_alloc ?_ _) | (with_reducible refine Kd.C_drewN ?_ _) | (with_reducible refine Kd.C_drew ?_))); (case side2 => exact (Kd.V_reads' HO_0.out).2.1); rintro e w' ⟨rfl, ⟨nd, rfl⟩⟩; refine ⟨_, rfl, ?_⟩; (try (rw [drewN_self w70]; generalize hq_ : World.drewN w70 _ = w70; have n0_ : Aside0 (Kd.V (Kd.int .u8) 5 w70 w.heap.size (fun k_ => (P0_ k_ ∨ w.heap.size ≤ k_) ∧ k_ ≠ gb270 ∧ k_ ≠ gb286) (.slice (some ad273) l0.length c0) l0) := ⟨by rw [← hq_]; exact (by (with_reducible repeat (first | apply Kd.V_alloc | apply Kd.V_drewN | apply Kd.V_drew)); exact HO_0.out)⟩; have n1_ : Aside0 (w70.heap[gb270]? = some (.cells #[.int .u8 0, .int .u16 0, .bool false, .bool false, .int .i64 0, .int .u8 0, .int .u8 0, .int .u32 0, .int .u32 0, .slice none 0 0, .slice none 0 0] 37 (0, 0))) := ⟨by rw [← hq_]; exact (by (with_reducible repeat (first | refine blk_drewN ?_ _ | refine blk_drew ?_ | refine blk_alloc ?_ _)); exact BK270.out)⟩; have n2_ : Aside0 (w70.heap[gb286]? = some (.cells #[.int .u8 (rd l0 1), .int .u16 (IntKind.u16.wrap (t283)), .bool ((((Int.tdiv (rd l0 6) 64) % 256) % 2) == 1), .bool ((((Int.tdiv (rd l0 6) 32) % 256) % 2) == 1), .int .i64 (Int.tmod t289 8192), .int .u8 (rd l0 8), .int .u8 (rd l0 9), .int .u32 ((wrap64 ((wrap64 (65536 * t290)) + t291)) % 4294967296), .int .u32 0, .slice none 0 0, .slice none 0 0] 37 (0, 0))) := ⟨by rw [← hq_]; exact (by (with_reducible repeat (first | refine blk_drewN ?_ _ | refine blk_drew ?_ | refine blk_alloc ?_ _)); exact BK286.out)⟩; have n3_ : Aside0 (Below w.heap.size w w70) := ⟨by rw [← hq_]; exact (by repeat (first | (with_reducible first | exact HB.out | apply below_alloc | apply pw_below_drewN | apply below_drew1 | refine below_set ?_ GE270.out | refine below_set ?_ GE286.out) | exact HB.out))⟩; clear HO_0 BK270 BK286 HB hq_; have HO_0 := n0_; have BK270 := n1_; have BK286 := n2_; have HB := n3_; clear n0_ n1_ n2_ n3_)); have hcz71 := blk_cell BK286.out; have hfz71 := blk_frozen BK286.out; have hfz71_10 := blk_frozen BK286.out 10) | ((with_reducible refine gate_store (t := 35) (p := 102) rfl ?_); refine store_event (t := 35) (p := 102) (v := ?vo_w72) (w1 := (w70.setCell ⟨gb286, 8, none⟩ (.int .u32 ((wrap64 ((wrap64 (65536 * t292)) + t293)) % 4294967296)))) ?hg ?ho ?hn ?hr ?_; (case ho => rfl); (case hg => rfl); (case hn => rfl); (case hr => first | (go_simp; done) | (go_simp; rfl)); intro w72 hw; have n0_ : Aside0 (Kd.V (Kd.int .u8) 5 w72 w.heap.size (fun k_ => (P0_ k_ ∨ w.heap.size ≤ k_) ∧ k_ ≠ gb270 ∧ k_ ≠ gb286) (.slice (some ad273) l0.length c0) l0) := ⟨(by rw [hw]; exact (by (with_reducible repeat (first | apply Kd.V_alloc | apply Kd.V_drewN | apply Kd.V_drew)); exact Kd.V_mono (Kd.V_far (Kd.V_mono HO_0.out (fun k_ hk => (⟨hk, hk.2.2⟩ : _ ∧ k_ ≠ gb286))) (fun _ hk => hk.2) _) (fun _ hk => ⟨hk.1.1, ⟨hk.1.2.1, hk.1.2.2⟩⟩)))⟩; have n1_ : Aside0 (w72.heap[gb270]? = some (.cells #[.int .u8 0, .int .u16 0, .bool false, .bool false, .int .i64 0, .int .u8 0, .int .u8 0, .int .u32 0, .int .u32 0, .slice none 0 0, .slice none 0 0] 37 (0, 0))) := ⟨(by rw [hw]; exact (by (with_reducible repeat (first | refine blk_drewN ?_ _ | refine blk_drew ?_ | refine blk_alloc ?_ _)); refine blk_far ?_ NB270_286.out _; (with_reducible repeat (first | refine blk_drewN ?_ _ | refine blk_drew ?_ | refine blk_alloc ?_ _)); exact BK270.out))⟩; have n2_ : Aside0 (w72.heap[gb286]? = some (.cells #[.int .u8 (rd l0 1), .int .u16 (IntKind.u16.wrap (t283)), .bool ((((Int.tdiv (rd l0 6) 64) % 256) % 2) == 1), .bool ((((Int.tdiv (rd l0 6) 32) % 256) % 2) == 1), .int .i64 (Int.tmod t289 8192), .int .u8 (rd l0 8), .int .u8 (rd l0 9), .int .u32 ((wrap64 ((wrap64 (65536 * t290)) + t291)) % 4294967296), .int .u32 ((wrap64 ((wrap64 (65536 * t292)) + t293)) % 4294967296), .slice none 0 0, .slice none 0 0] 37 (0, 0))) := ⟨(by rw [hw]; exact (by (with_reducible repeat (first | refine blk_drewN ?_ _ | refine blk_drew ?_ | refine blk_alloc ?_ _)); refine blk_put (cs := #[.int .u8 (rd l0 1), .int .u16 (IntKind.u16.wrap (t283)), .bool ((((Int.tdiv (rd l0 6) 64) % 256) % 2) == 1), .bool ((((Int.tdiv (rd l0 6) 32) % 256) % 2) == 1), .int .i64 (Int.tmod t289 8192), .int .u8 (rd l0 8), .int .u8 (rd l0 9), .int .u32 ((wrap64 ((wrap64 (65536 * t290)) + t291)) % 4294967296), .int .u32 0, .slice none 0 0, .slice none 0 0]) ?_ 8 _ rfl; (with_reducible repeat (first | refine blk_drewN ?_ _ | refine blk_drew ?_ | refine blk_alloc ?_ _)); exact BK286.out))⟩; have n3_ : Aside0 (Below w.heap.size w w72) := ⟨(by rw [hw]; exact (by repeat (first | (with_reducible first | exact HB.out | apply below_alloc | apply pw_below_drewN | apply below_drew1 | refine below_set ?_ GE270.out | refine below_set ?_ GE286.out) | exact HB.out)))⟩; clear hw; clear HO_0; clear BK270; clear BK286; clear HB; have HO_0 := n0_; have BK270 := n1_; have BK286 := n2_; have HB := n3_; clear n0_ n1_ n2_ n3_))
                       have n0_ := Aside0.mk (Kd.V_drew HO_0.out)
                       have n1_ := Aside0.mk (blk_drew BK270.out)
                       have n2_ := Aside0.mk (blk_drew BK286.out)
                       have n3_ := Aside0.mk (below_drew1 HB.out)
                       clear HO_0
                       clear BK270
                       clear BK286
                       clear HB
                       have HO_0 := n0_
                       have BK270 := n1_
                       have BK286 := n2_
                       have HB := n3_
                       clear n0_ n1_ n2_ n3_
                       have q74 : (ji17 : Int) ≤ ((l0.length : Int) : Int) := of_decide_eq_true (by first | (with_reducible assumption) | assumption)
                       obtain ⟨i074, hi074, _, hsz74, _⟩ := info_parts info5
                       have hroom74 : l0.length ≤ c0 := (Kd.V_reads' HO_0.out).2.1
                       have hC74 : Kd.F (Kd.int .u8) _ _ (some ad273) l0.length l0 := (Kd.V_at (base := w.heap.size) HO_0.out).2.2
                       have ql74 : (20 : Int) ≤ (ji17 : Int) := of_decide_eq_true (by first | (with_reducible assumption) | assumption)
                       have hcut74 := cut_mid (P := Try.prog) 23 5 .i64 .i64 Try.underlying23 hi074 1 hsz74 (some ad273) l0.length c0 20 ji17 (by omega) ql74 q74 hroom74
                       have hr74 := Kd.F_mid (lo := (20 : Int).toNat) (hi := (ji17 : Int).toNat) (c := c0) hC74 (by omega) (by omega) hroom74
                       obtain ⟨A74, hA74⟩ : ∃ A1, A1 = (if c0 = (20 : Int).toNat then (some ad273) else ((some ad273) : Option Addr).map (·.add ((20 : Int).toNat * 1))) := ⟨_, rfl⟩
                       obtain ⟨c74, hc74⟩ : ∃ c1, c1 = c0 - (20 : Int).toNat := ⟨_, rfl⟩
                       have hy74 : y294.length = (ji17 : Int).toNat - (20 : Int).toNat := (by rw [Ny294.out, List.length_drop, List.length_take] <;> omega)
                       rw [show ((l0).take (ji17 : Int).toNat).drop (20 : Int).toNat = y294 from Ny294.out.symm] at hr74
                       replace hr74 : Kd.F (Kd.int .u8) _ _ A74 y294.length y294 := (by rw [hA74]; exact hr74)
                       rw [← hy74, ← hA74, ← hc74] at hcut74
                       have HO298 := Aside0.mk (show Kd.V (Kd.int .u8) 5 _ w.heap.size _ (.slice A74 y294.length c74) y294 from Kd.V_mk (by rw [hy74, hc74]; exact Nat.sub_le_sub_right (Nat.le_trans (by omega) hroom74) _) hr74)
                       have HC298 := Aside0.mk (show y294.length ≤ c74 from by rw [hy74, hc74]; exact Nat.sub_le_sub_right (Nat.le_trans (by omega) hroom74) _)
                       clear hr74 hC74 hroom74 hi074 hsz74 hc74
                       have KY74 := Aside0.mk hy74
                       have KA74 := Aside0.mk hA74
                       clear hy74 hA74
                       replace q74 := eq_true q74
                       have q75 : (t280 : Int) ≤ ((l0.length : Int) : Int) := of_decide_eq_true (by first | (with_reducible assumption) | assumption)
                       obtain ⟨i075, hi075, _, hsz75, _⟩ := info_parts info5
                       have hroom75 : l0.length ≤ c0 := (Kd.V_reads' HO_0.out).2.1
                       have hC75 : Kd.F (Kd.int .u8) _ _ (some ad273) l0.length l0 := (Kd.V_at (base := w.heap.size) HO_0.out).2.2
                       have ql75 : (ji17 : Int) ≤ (t280 : Int) := of_decide_eq_true (by first | (with_reducible assumption) | assumption)
                       have q075 : (0 : Int) ≤ (ji17 : Int) := of_decide_eq_true (by first | (with_reducible assumption) | assumption)
                       have hcut75 := cut_mid (P := Try.prog) 23 5 .i64 .i64 Try.underlying23 hi075 1 hsz75 (some ad273) l0.length c0 ji17 t280 q075 ql75 q75 hroom75
                       have hr75 := Kd.F_mid (lo := (ji17 : Int).toNat) (hi := (t280 : Int).toNat) (c := c0) hC75 (by omega) (by omega) hroom75
                       obtain ⟨A75, hA75⟩ : ∃ A1, A1 = (if c0 = (ji17 : Int).toNat then (some ad273) else ((some ad273) : Option Addr).map (·.add ((ji17 : Int).toNat * 1))) := ⟨_, rfl⟩
                       obtain ⟨c75, hc75⟩ : ∃ c1, c1 = c0 - (ji17 : Int).toNat := ⟨_, rfl⟩
                       have hy75 : y299.length = (t280 : Int).toNat - (ji17 : Int).toNat := (by rw [Ny299.out, List.length_drop, List.length_take] <;> omega)
                       rw [show ((l0).take (t280 : Int).toNat).drop (ji17 : Int).toNat = y299 from Ny299.out.symm] at hr75
                       replace hr75 : Kd.F (Kd.int .u8) _ _ A75 y299.length y299 := (by rw [hA75]; exact hr75)
                       rw [← hy75, ← hA75, ← hc75] at hcut75
                       have HO303 := Aside0.mk (show Kd.V (Kd.int .u8) 5 _ w.heap.size _ (.slice A75 y299.length c75) y299 from Kd.V_mk (by rw [hy75, hc75]; exact Nat.sub_le_sub_right (Nat.le_trans (by omega) hroom75) _) hr75)
                       have HC303 := Aside0.mk (show y299.length ≤ c75 from by rw [hy75, hc75]; exact Nat.sub_le_sub_right (Nat.le_trans (by omega) hroom75) _)
                       clear hr75 hC75 hroom75 hi075 hsz75 hc75
                       have KY75 := Aside0.mk hy75
                       have KA75 := Aside0.mk hA75
                       clear hy75 hA75
                       replace q75 := eq_true q75
                       refine start_ (n := 11) (S := fun w' => True) (ds := []) (bb 11 0) (by kernel_rfl) rfl rfl trivial (fun hHeld => ?_); refine with_tabW towroperef06_Get.tab21 towroperef06_Get.bits21 (fun HT_ HW_ => ?_)
                       generalize w72.drew = w73 at HO_0 BK270 BK286 HB HO298 HO303 hHeld ⊢
                       refine pure_ (i := 0) (N := some 103) (v := ?_) (a' := ?_) (bb 11 1) rfl rfl (any_of HT_.out (by kernel_rfl)) (fun _ _ _ h => h) (Or.inl ⟨by rfl, ?_⟩) ?_ ?_
                       rotate_left
                       ·
                        intro w'
                        go_simp
                        with_reducible rfl
                       rotate_left
                       ·
                        simp only [Act.put, List.setIfInBounds_toArray, List.set_cons_zero, List.set_cons_succ, i64_w, i32_w]
                        rfl
                       refine pure_ (i := 1) (N := some 104) (v := ?_) (a' := ?_) (bb 11 3) rfl rfl (any_of HT_.out (by kernel_rfl)) (fun _ _ _ h => h) (Or.inl ⟨by rfl, ?_⟩) ?_ ?_
                       rotate_left
                       ·
                        intro w'
                        go_simp
                        with_reducible rfl
                       rotate_left
                       ·
                        simp only [Act.put, List.setIfInBounds_toArray, List.set_cons_zero, List.set_cons_succ, i64_w, i32_w]
                        rfl
                       refine pure_ (i := 2) (N := some 105) (v := ?_) (a' := ?_) (bb 11 7) rfl rfl (any_of HT_.out (by kernel_rfl)) (fun _ _ _ h => h) (Or.inl ⟨by rfl, ?_⟩) ?_ ?_
                       rotate_left
                       ·
                        intro w'
                        go_simp
                        with_reducible rfl
                       rotate_left
                       ·
                        simp only [Act.put, List.setIfInBounds_toArray, List.set_cons_zero, List.set_cons_succ, i64_w, i32_w]
                        rfl
                       refine pure_ (i := 3) (N := some 106) (v := ?_) (a' := ?_) (bb 11 15) rfl rfl (any_of HT_.out (by kernel_rfl)) (fun _ _ _ h => h) (Or.inl ⟨by rfl, ?_⟩) ?_ ?_
                       rotate_left
                       ·
                        intro w'
                        go_simp
                        with_reducible rfl
                       rotate_left
                       ·
                        simp only [Act.put, List.setIfInBounds_toArray, List.set_cons_zero, List.set_cons_succ, i64_w, i32_w]
                        rfl
                       refine pure_ (i := 4) (N := some 107) (v := ?_) (a' := ?_) (bb 11 31) rfl rfl (any_of HT_.out (by kernel_rfl)) (fun _ _ _ h => h) (Or.inl ⟨by rfl, ?_⟩) ?_ ?_
                       rotate_left
                       ·
                        intro w'
                        go_simp
                        with_reducible rfl
                       rotate_left
                       ·
                        simp only [Act.put, List.setIfInBounds_toArray, List.set_cons_zero, List.set_cons_succ, i64_w, i32_w]
                        rfl
                       refine pure_ (i := 5) (N := some 108) (v := ?_) (a' := ?_) (bb 11 63) rfl rfl (any_of HT_.out (by kernel_rfl)) (fun _ _ _ h => h) (Or.inl ⟨by rfl, ?_⟩) ?_ ?_
                       rotate_left
                       ·
                        intro w'
                        go_simp
                        with_reducible rfl
                       rotate_left
                       ·
                        simp only [Act.put, List.setIfInBounds_toArray, List.set_cons_zero, List.set_cons_succ, i64_w, i32_w]
                        rfl
                       refine pure_ (i := 6) (N := some 109) (v := ?_) (a' := ?_) (bb 11 127) rfl rfl (any_of HT_.out (by kernel_rfl)) (fun _ _ _ h => h) (Or.inl ⟨by rfl, ?_⟩) ?_ ?_
                       rotate_left
                       ·
                        intro w'
                        go_simp
                        with_reducible rfl
                       rotate_left
                       ·
                        simp only [Act.put, List.setIfInBounds_toArray, List.set_cons_zero, List.set_cons_succ, i64_w, i32_w]
                        rfl
                       refine pure_ (i := 7) (N := some 110) (v := ?_) (a' := ?_) (bb 11 255) rfl rfl (any_of HT_.out (by kernel_rfl)) (fun _ _ _ h => h) (Or.inl ⟨by rfl, ?_⟩) ?_ ?_
                       rotate_left
                       ·
                        intro w'
                        go_simp
                        with_reducible rfl
                       rotate_left
                       ·
                        simp only [Act.put, List.setIfInBounds_toArray, List.set_cons_zero, List.set_cons_succ, i64_w, i32_w]
                        rfl
                       refine one_ (i := 8) (N := none) (bb 11 511) rfl rfl (one_of HT_.out (by kernel_rfl)) (by decide) (fun K hK => ?_)
                       have hs76 : w73.cell? ⟨gb286, 9, none⟩ = some (.slice none 0 0) := (blk_cell BK286.out 9).trans rfl
                       have hfs76 := blk_frozen BK286.out 9
                       have hns76_0 := NB270_286.out
                       have hms76_0 := NB286_270.out
                       refine skip_ (w1 := ?_) (by rfl) rfl ?_ ?_
                       rotate_left
                       ·
                        go_simp
                        rfl
                       refine hK.out _ _ trivial (fun hHeld => ?_)
                       clear hK K
                       refine pure_ (i := 9) (N := some 111) (v := ?_) (a' := ?_) (bb 11 1023) rfl rfl (any_of HT_.out (by kernel_rfl)) (fun _ _ _ h => h) (Or.inl ⟨by rfl, ?_⟩) ?_ ?_
                       rotate_left
                       ·
                        intro w'
                        go_simp
                        with_reducible rfl
                       rotate_left
                       ·
                        simp only [Act.put, List.setIfInBounds_toArray, List.set_cons_zero, List.set_cons_succ, i64_w, i32_w]
                        rfl
                       refine one_ (i := 10) (N := none) (bb 11 2047) rfl rfl (one_of HT_.out (by kernel_rfl)) (by decide) (fun K hK => ?_)
                       have hs77 : w73.cell? ⟨gb286, 10, none⟩ = some (.slice none 0 0) := (blk_cell BK286.out 10).trans rfl
                       have hfs77 := blk_frozen BK286.out 10
                       have hns77_0 := NB270_286.out
                       have hms77_0 := NB286_270.out
                       refine skip_ (w1 := ?_) (by rfl) rfl ?_ ?_
                       rotate_left
                       ·
                        go_simp
                        rfl
                       refine hK.out _ _ trivial (fun hHeld => ?_)
                       clear hK K
                       refine done_ (done_of HT_.out (by kernel_rfl)) ?_
                       have hcz78 := blk_cell BK286.out
                       have hfz78 := blk_frozen BK286.out
                       have hcz79 := blk_cell BK270.out
                       have hfz79 := blk_frozen BK270.out
                       try go_wp2_with (first | ((with_reducible refine gate_store (t := 37) (p := 2) rfl ?_); refine store_event (t := 37) (p := 2) (v := ?vo_w80) (w1 := (((((((((((((w73.setCell ⟨gb286, 9, none⟩ (.slice A74 y294.length c74)).setCell ⟨gb286, 10, none⟩ (.slice A75 y299.length c75)).setCell ⟨gb270, 0, none⟩ (.int .u8 (rd l0 1))).setCell ⟨gb270, 1, none⟩ (.int .u16 (IntKind.u16.wrap (t283)))).setCell ⟨gb270, 2, none⟩ (.bool ((((Int.tdiv (rd l0 6) 64) % 256) % 2) == 1))).setCell ⟨gb270, 3, none⟩ (.bool ((((Int.tdiv (rd l0 6) 32) % 256) % 2) == 1))).setCell ⟨gb270, 4, none⟩ (.int .i64 (Int.tmod t289 8192))).setCell ⟨gb270, 5, none⟩ (.int .u8 (rd l0 8))).setCell ⟨gb270, 6, none⟩ (.int .u8 (rd l0 9))).setCell ⟨gb270, 7, none⟩ (.int .u32 ((wrap64 ((wrap64 (65536 * t290)) + t291)) % 4294967296))).setCell ⟨gb270, 8, none⟩ (.int .u32 ((wrap64 ((wrap64 (65536 * t292)) + t293)) % 4294967296))).setCell ⟨gb270, 9, none⟩ (.slice A74 y294.length c74)).setCell ⟨gb270, 10, none⟩ (.slice A75 y299.length c75))) ?hg ?ho ?hn ?hr ?_; (case ho => rfl); (case hg => rfl); (case hn => rfl); (case hr => first | (go_simp; done) | (go_simp; rfl)); intro w80 hw; have n0_ : Aside0 (Kd.V (Kd.int .u8) 5 w80 w.heap.size (fun k_ => (P0_ k_ ∨ w.heap.size ≤ k_) ∧ k_ ≠ gb270 ∧ k_ ≠ gb286) (.slice (some ad273) l0.length c0) l0) := ⟨(by rw [hw]; exact (by (with_reducible repeat (first | apply Kd.V_alloc | apply Kd.V_drewN | apply Kd.V_drew)); exact Kd.V_mono (Kd.V_far (Kd.V_far (Kd.V_far (Kd.V_far (Kd.V_far (Kd.V_far (Kd.V_far (Kd.V_far (Kd.V_far (Kd.V_far (Kd.V_far (Kd.V_far (Kd.V_far (Kd.V_mono (Kd.V_mono HO_0.out (fun k_ hk => (⟨hk, hk.2.2⟩ : _ ∧ k_ ≠ gb286))) (fun k_ hk => (⟨hk, hk.1.2.1⟩ : _ ∧ k_ ≠ gb270))) (fun _ hk => hk.1.2) (.slice A74 y294.length c74)) (fun _ hk => hk.1.2) (.slice A75 y299.length c75)) (fun _ hk => hk.2) _) (fun _ hk => hk.2) _) (fun _ hk => hk.2) _) (fun _ hk => hk.2) _) (fun _ hk => hk.2) _) (fun _ hk => hk.2) _) (fun _ hk => hk.2) _) (fun _ hk => hk.2) _) (fun _ hk => hk.2) _) (fun _ hk => hk.2) _) (fun _ hk => hk.2) _) (fun _ hk => ⟨hk.1.1.1, ⟨hk.1.1.2.1, hk.1.1.2.2⟩⟩)))⟩; have n1_ : Aside0 (Kd.V (Kd.int .u8) 5 w80 w.heap.size (fun k_ => (P0_ k_ ∨ w.heap.size ≤ k_) ∧ k_ ≠ gb270 ∧ k_ ≠ gb286) (.slice A74 y294.length c74) y294) := ⟨(by rw [hw]; exact (by (with_reducible repeat (first | apply Kd.V_alloc | apply Kd.V_drewN | apply Kd.V_drew)); exact Kd.V_mono (Kd.V_far (Kd.V_far (Kd.V_far (Kd.V_far (Kd.V_far (Kd.V_far (Kd.V_far (Kd.V_far (Kd.V_far (Kd.V_far (Kd.V_far (Kd.V_far (Kd.V_far (Kd.V_mono (Kd.V_mono HO298.out (fun k_ hk => (⟨hk, hk.2.2⟩ : _ ∧ k_ ≠ gb286))) (fun k_ hk => (⟨hk, hk.1.2.1⟩ : _ ∧ k_ ≠ gb270))) (fun _ hk => hk.1.2) (.slice A74 y294.length c74)) (fun _ hk => hk.1.2) (.slice A75 y299.length c75)) (fun _ hk => hk.2) _) (fun _ hk => hk.2) _) (fun _ hk => hk.2) _) (fun _ hk => hk.2) _) (fun _ hk => hk.2) _) (fun _ hk => hk.2) _) (fun _ hk => hk.2) _) (fun _ hk => hk.2) _) (fun _ hk => hk.2) _) (fun _ hk => hk.2) _) (fun _ hk => hk.2) _) (fun _ hk => ⟨hk.1.1.1, ⟨hk.1.1.2.1, hk.1.1.2.2⟩⟩)))⟩; have n2_ : Aside0 (Kd.V (Kd.int .u8) 5 w80 w.heap.size (fun k_ => (P0_ k_ ∨ w.heap.size ≤ k_) ∧ k_ ≠ gb270 ∧ k_ ≠ gb286) (.slice A75 y299.length c75) y299) := ⟨(by rw [hw]; exact (by (with_reducible repeat (first | apply Kd.V_alloc | apply Kd.V_drewN | apply Kd.V_drew)); exact Kd.V_mono (Kd.V_far (Kd.V_far (Kd.V_far (Kd.V_far (Kd.V_far (Kd.V_far (Kd.V_far (Kd.V_far (Kd.V_far (Kd.V_far (Kd.V_far (Kd.V_far (Kd.V_far (Kd.V_mono (Kd.V_mono HO303.out (fun k_ hk => (⟨hk, hk.2.2⟩ : _ ∧ k_ ≠ gb286))) (fun k_ hk => (⟨hk, hk.1.2.1⟩ : _ ∧ k_ ≠ gb270))) (fun _ hk => hk.1.2) (.slice A74 y294.length c74)) (fun _ hk => hk.1.2) (.slice A75 y299.length c75)) (fun _ hk => hk.2) _) (fun _ hk => hk.2) _) (fun _ hk => hk.2) _) (fun _ hk => hk.2) _) (fun _ hk => hk.2) _) (fun _ hk => hk.2) _) (fun _ hk => hk.2) _) (fun _ hk => hk.2) _) (fun _ hk => hk.2) _) (fun _ hk => hk.2) _) (fun _ hk => hk.2) _) (fun _ hk => ⟨hk.1.1.1, ⟨hk.1.1.2.1, hk.1.1.2.2⟩⟩)))⟩; have n3_ : Aside0 (w80.heap[gb270]? = some (.cells #[.int .u8 (rd l0 1), .int .u16 (IntKind.u16.wrap (t283)), .bool ((((Int.tdiv (rd l0 6) 64) % 256) % 2) == 1), .bool ((((Int.tdiv (rd l0 6) 32) % 256) % 2) == 1), .int .i64 (Int.tmod t289 8192), .int .u8 (rd l0 8), .int .u8 (rd l0 9), .int .u32 ((wrap64 ((wrap64 (65536 * t290)) + t291)) % 4294967296), .int .u32 ((wrap64 ((wrap64 (65536 * t292)) + t293)) % 4294967296), .slice A74 y294.length c74, .slice A75 y299.length c75] 37 (0, 0))) := ⟨(by rw [hw]; exact (by (with_reducible repeat (first | refine blk_drewN ?_ _ | refine blk_drew ?_ | refine blk_alloc ?_ _)); refine blk_put (cs := #[.int .u8 (rd l0 1), .int .u16 (IntKind.u16.wrap (t283)), .bool ((((Int.tdiv (rd l0 6) 64) % 256) % 2) == 1), .bool ((((Int.tdiv (rd l0 6) 32) % 256) % 2) == 1), .int .i64 (Int.tmod t289 8192), .int .u8 (rd l0 8), .int .u8 (rd l0 9), .int .u32 ((wrap64 ((wrap64 (65536 * t290)) + t291)) % 4294967296), .int .u32 ((wrap64 ((wrap64 (65536 * t292)) + t293)) % 4294967296), .slice A74 y294.length c74, .slice none 0 0]) ?_ 10 _ rfl; (with_reducible repeat (first | refine blk_drewN ?_ _ | refine blk_drew ?_ | refine blk_alloc ?_ _)); refine blk_put (cs := #[.int .u8 (rd l0 1), .int .u16 (IntKind.u16.wrap (t283)), .bool ((((Int.tdiv (rd l0 6) 64) % 256) % 2) == 1), .bool ((((Int.tdiv (rd l0 6) 32) % 256) % 2) == 1), .int .i64 (Int.tmod t289 8192), .int .u8 (rd l0 8), .int .u8 (rd l0 9), .int .u32 ((wrap64 ((wrap64 (65536 * t290)) + t291)) % 4294967296), .int .u32 ((wrap64 ((wrap64 (65536 * t292)) + t293)) % 4294967296), .slice none 0 0, .slice none 0 0]) ?_ 9 _ rfl; (with_reducible repeat (first | refine blk_drewN ?_ _ | refine blk_drew ?_ | refine blk_alloc ?_ _)); refine blk_put (cs := #[.int .u8 (rd l0 1), .int .u16 (IntKind.u16.wrap (t283)), .bool ((((Int.tdiv (rd l0 6) 64) % 256) % 2) == 1), .bool ((((Int.tdiv (rd l0 6) 32) % 256) % 2) == 1), .int .i64 (Int.tmod t289 8192), .int .u8 (rd l0 8), .int .u8 (rd l0 9), .int .u32 ((wrap64 ((wrap64 (65536 * t290)) + t291)) % 4294967296), .int .u32 0, .slice none 0 0, .slice none 0 0]) ?_ 8 _ rfl; (with_reducible repeat (first | refine blk_drewN ?_ _ | refine blk_drew ?_ | refine blk_alloc ?_ _)); refine blk_put (cs := #[.int .u8 (rd l0 1), .int .u16 (IntKind.u16.wrap (t283)), .bool ((((Int.tdiv (rd l0 6) 64) % 256) % 2) == 1), .bool ((((Int.tdiv (rd l0 6) 32) % 256) % 2) == 1), .int .i64 (Int.tmod t289 8192), .int .u8 (rd l0 8), .int .u8 (rd l0 9), .int .u32 0, .int .u32 0, .slice none 0 0, .slice none 0 0]) ?_ 7 _ rfl; (with_reducible repeat (first | refine blk_drewN ?_ _ | refine blk_drew ?_ | refine blk_alloc ?_ _)); refine blk_put (cs := #[.int .u8 (rd l0 1), .int .u16 (IntKind.u16.wrap (t283)), .bool ((((Int.tdiv (rd l0 6) 64) % 256) % 2) == 1), .bool ((((Int.tdiv (rd l0 6) 32) % 256) % 2) == 1), .int .i64 (Int.tmod t289 8192), .int .u8 (rd l0 8), .int .u8 0, .int .u32 0, .int .u32 0, .slice none 0 0, .slice none 0 0]) ?_ 6 _ rfl; (with_reducible repeat (first | refine blk_drewN ?_ _ | refine blk_drew ?_ | refine blk_alloc ?_ _)); refine blk_put (cs := #[.int .u8 (rd l0 1), .int .u16 (IntKind.u16.wrap (t283)), .bool ((((Int.tdiv (rd l0 6) 64) % 256) % 2) == 1), .bool ((((Int.tdiv (rd l0 6) 32) % 256) % 2) == 1), .int .i64 (Int.tmod t289 8192), .int .u8 0, .int .u8 0, .int .u32 0, .int .u32 0, .slice none 0 0, .slice none 0 0]) ?_ 5 _ rfl; (with_reducible repeat (first | refine blk_drewN ?_ _ | refine blk_drew ?_ | refine blk_alloc ?_ _)); refine blk_put (cs := #[.int .u8 (rd l0 1), .int .u16 (IntKind.u16.wrap (t283)), .bool ((((Int.tdiv (rd l0 6) 64) % 256) % 2) == 1), .bool ((((Int.tdiv (rd l0 6) 32) % 256) % 2) == 1), .int .i64 0, .int .u8 0, .int .u8 0, .int .u32 0, .int .u32 0, .slice none 0 0, .slice none 0 0]) ?_ 4 _ rfl; (with_reducible repeat (first | refine blk_drewN ?_ _ | refine blk_drew ?_ | refine blk_alloc ?_ _)); refine blk_put (cs := #[.int .u8 (rd l0 1), .int .u16 (IntKind.u16.wrap (t283)), .bool ((((Int.tdiv (rd l0 6) 64) % 256) % 2) == 1), .bool false, .int .i64 0, .int .u8 0, .int .u8 0, .int .u32 0, .int .u32 0, .slice none 0 0, .slice none 0 0]) ?_ 3 _ rfl; (with_reducible repeat (first | refine blk_drewN ?_ _ | refine blk_drew ?_ | refine blk_alloc ?_ _)); refine blk_put (cs := #[.int .u8 (rd l0 1), .int .u16 (IntKind.u16.wrap (t283)), .bool false, .bool false, .int .i64 0, .int .u8 0, .int .u8 0, .int .u32 0, .int .u32 0, .slice none 0 0, .slice none 0 0]) ?_ 2 _ rfl; (with_reducible repeat (first | refine blk_drewN ?_ _ | refine blk_drew ?_ | refine blk_alloc ?_ _)); refine blk_put (cs := #[.int .u8 (rd l0 1), .int .u16 0, .bool false, .bool false, .int .i64 0, .int .u8 0, .int .u8 0, .int .u32 0, .int .u32 0, .slice none 0 0, .slice none 0 0]) ?_ 1 _ rfl; (with_reducible repeat (first | refine blk_drewN ?_ _ | refine blk_drew ?_ | refine blk_alloc ?_ _)); refine blk_put (cs := #[.int .u8 0, .int .u16 0, .bool false, .bool false, .int .i64 0, .int .u8 0, .int .u8 0, .int .u32 0, .int .u32 0, .slice none 0 0, .slice none 0 0]) ?_ 0 _ rfl; (with_reducible repeat (first | refine blk_drewN ?_ _ | refine blk_drew ?_ | refine blk_alloc ?_ _)); refine blk_far ?_ NB270_286.out _; (with_reducible repeat (first | refine blk_drewN ?_ _ | refine blk_drew ?_ | refine blk_alloc ?_ _)); refine blk_far ?_ NB270_286.out _; (with_reducible repeat (first | refine blk_drewN ?_ _ | refine blk_drew ?_ | refine blk_alloc ?_ _)); exact BK270.out))⟩; have n4_ : Aside0 (w80.heap[gb286]? = some (.cells #[.int .u8 (rd l0 1), .int .u16 (IntKind.u16.wrap (t283)), .bool ((((Int.tdiv (rd l0 6) 64) % 256) % 2) == 1), .bool ((((Int.tdiv (rd l0 6) 32) % 256) % 2) == 1), .int .i64 (Int.tmod t289 8192), .int .u8 (rd l0 8), .int .u8 (rd l0 9), .int .u32 ((wrap64 ((wrap64 (65536 * t290)) + t291)) % 4294967296), .int .u32 ((wrap64 ((wrap64 (65536 * t292)) + t293)) % 4294967296), .slice A74 y294.length c74, .slice A75 y299.length c75] 37 (0, 0))) := ⟨(by rw [hw]; exact (by (with_reducible repeat (first | refine blk_drewN ?_ _ | refine blk_drew ?_ | refine blk_alloc ?_ _)); refine blk_far ?_ NB286_270.out _; (with_reducible repeat (first | refine blk_drewN ?_ _ | refine blk_drew ?_ | refine blk_alloc ?_ _)); refine blk_far ?_ NB286_270.out _; (with_reducible repeat (first | refine blk_drewN ?_ _ | refine blk_drew ?_ | refine blk_alloc ?_ _)); refine blk_far ?_ NB286_270.out _; (with_reducible repeat (first | refine blk_drewN ?_ _ | refine blk_drew ?_ | refine blk_alloc ?_ _)); refine blk_far ?_ NB286_270.out _; (with_reducible repeat (first | refine blk_drewN ?_ _ | refine blk_drew ?_ | refine blk_alloc ?_ _)); refine blk_far ?_ NB286_270.out _; (with_reducible repeat (first | refine blk_drewN ?_ _ | refine blk_drew ?_ | refine blk_alloc ?_ _)); refine blk_far ?_ NB286_270.out _; (with_reducible repeat (first | refine blk_drewN ?_ _ | refine blk_drew ?_ | refine blk_alloc ?_ _)); refine blk_far ?_ NB286_270.out _; (with_reducible repeat (first | refine blk_drewN ?_ _ | refine blk_drew ?_ | refine blk_alloc ?_ _)); refine blk_far ?_ NB286_270.out _; (with_reducible repeat (first | refine blk_drewN ?_ _ | refine blk_drew ?_ | refine blk_alloc ?_ _)); refine blk_far ?_ NB286_270.out _; (with_reducible repeat (first | refine blk_drewN ?_ _ | refine blk_drew ?_ | refine blk_alloc ?_ _)); refine blk_far ?_ NB286_270.out _; (with_reducible repeat (first | refine blk_drewN ?_ _ | refine blk_drew ?_ | refine blk_alloc ?_ _)); refine blk_far ?_ NB286_270.out _; (with_reducible repeat (first | refine blk_drewN ?_ _ | refine blk_drew ?_ | refine blk_alloc ?_ _)); refine blk_put (cs := #[.int .u8 (rd l0 1), .int .u16 (IntKind.u16.wrap (t283)), .bool ((((Int.tdiv (rd l0 6) 64) % 256) % 2) == 1), .bool ((((Int.tdiv (rd l0 6) 32) % 256) % 2) == 1), .int .i64 (Int.tmod t289 8192), .int .u8 (rd l0 8), .int .u8 (rd l0 9), .int .u32 ((wrap64 ((wrap64 (65536 * t290)) + t291)) % 4294967296), .int .u32 ((wrap64 ((wrap64 (65536 * t292)) + t293)) % 4294967296), .slice A74 y294.length c74, .slice none 0 0]) ?_ 10 _ rfl; (with_reducible repeat (first | refine blk_drewN ?_ _ | refine blk_drew ?_ | refine blk_alloc ?_ _)); refine blk_put (cs := #[.int .u8 (rd l0 1), .int .u16 (IntKind.u16.wrap (t283)), .bool ((((Int.tdiv (rd l0 6) 64) % 256) % 2) == 1), .bool ((((Int.tdiv (rd l0 6) 32) % 256) % 2) == 1), .int .i64 (Int.tmod t289 8192), .int .u8 (rd l0 8), .int .u8 (rd l0 9), .int .u32 ((wrap64 ((wrap64 (65536 * t290)) + t291)) % 4294967296), .int .u32 ((wrap64 ((wrap64 (65536 * t292)) + t293)) % 4294967296), .slice none 0 0, .slice none 0 0]) ?_ 9 _ rfl; (with_reducible repeat (first | refine blk_drewN ?_ _ | refine blk_drew ?_ | refine blk_alloc ?_ _)); exact BK286.out))⟩; have n5_ : Aside0 (Below w.heap.size w w80) := ⟨(by rw [hw]; exact (by repeat (first | (with_reducible first | exact HB.out | apply below_alloc | apply pw_below_drewN | apply below_drew1 | refine below_set ?_ GE270.out | refine below_set ?_ GE286.out) | exact HB.out)))⟩; clear hw; clear HO_0; clear HO298; clear HO303; clear BK270; clear BK286; clear HB; have HO_0 := n0_; have HO298 := n1_; have HO303 := n2_; have BK270 := n3_; have BK286 := n4_; have HB := n5_; clear n0_ n1_ n2_ n3_ n4_ n5_))
                       refine bodyPost_ret (results_ct rfl _ _ gb270 37 #[.int .u8 (rd l0 1), .int .u16 (IntKind.u16.wrap (t283)), .bool ((((Int.tdiv (rd l0 6) 64) % 256) % 2) == 1), .bool ((((Int.tdiv (rd l0 6) 32) % 256) % 2) == 1), .int .i64 (Int.tmod t289 8192), .int .u8 (rd l0 8), .int .u8 (rd l0 9), .int .u32 ((wrap64 ((wrap64 (65536 * t290)) + t291)) % 4294967296), .int .u32 ((wrap64 ((wrap64 (65536 * t292)) + t293)) % 4294967296), .slice A74 y294.length c74, .slice A75 y299.length c75] (0, 0) _ rfl (by (with_reducible repeat (first | refine blk_drewN ?_ _ | refine blk_drew ?_ | refine blk_alloc ?_ _)); exact BK270.out) Try.underlying37 rfl (by kernel_rfl)) rfl ?_
                       exact ⟨_, _, by first | rfl | (simp [errW_none, errW_some] <;> rfl) | (simp only [← hji17]; first | rfl | (simp [errW_none, errW_some] <;> rfl)) | (simp [*, errW_none, errW_some] <;> rfl), by (with_reducible repeat (first | apply Kd.V_alloc | apply Kd.V_drewN | apply Kd.V_drew)); exact Kd.V_mono HO298.out (fun _ hk => hk.1), by (with_reducible repeat (first | apply Kd.V_alloc | apply Kd.V_drewN | apply Kd.V_drew)); exact Kd.V_mono HO303.out (fun _ hk => hk.1), by repeat (first | (with_reducible first | exact HB.out | apply below_alloc | apply pw_below_drewN | apply below_drew1 | refine below_set ?_ GE270.out | refine below_set ?_ GE286.out) | exact HB.out)⟩
                      ·
                       rw [if_neg c47] at H
                       exact absurd H (by simp)
                     ·
                      rw [if_neg c46] at H
                      exact absurd H (by simp)
                    ·
                     rw [if_neg c45] at H
                     exact absurd H (by simp)
                   ·
                    rw [if_neg c44] at H
                    exact absurd H (by simp)
                  ·
                   rw [if_neg c43] at H
                   exact absurd H (by simp)
                 ·
                  rw [if_neg c37] at H
                  exact absurd H (by simp)
                ·
                 rw [if_neg c36] at H
                 exact absurd H (by simp)
               ·
                rw [if_neg c35] at H
                exact absurd H (by simp)
              ·
               rw [if_neg c33] at H
               exact absurd H (by simp)
         ·
          rw [if_neg c21] at H
          have c21b0 : (t279 == 65535) = false := beq_eq_false_iff_ne.mpr c21
          have c21b1 : (t279 != 65535) = true := bne_iff_ne.mpr c21
          simp only [Option.some.injEq, Prod.mk.injEq] at H
          obtain ⟨rfl, rfl, rfl, rfl, rfl, rfl, rfl, rfl, rfl, rfl, rfl, rfl⟩ := H
          have p273 : 0 ≤ (0 : Int) := (by omega)
          have q273 : 0 < (l0.length : Int) := of_decide_eq_true (by first | (with_reducible assumption) | assumption)
          obtain ⟨ad273, e273, hx273_0⟩ := Kd.at_int (Kd.V_reads' HO_0.out).2.2 0 p273 q273
          cases e273
          have qi273 : (0 < l0.length) = True := eq_true (by omega)
          (try rw [show ((0 : Int)).toNat = 0 from rfl] at hx273_0)
          (try rw [Addr.add_zero'] at hx273_0)
          replace p273 := eq_true p273
          replace q273 := eq_true q273
          have q81 : ((ji17) : Int) ≤ ((l0.length : Int) : Int) := of_decide_eq_true (by first | (with_reducible assumption) | assumption)
          obtain ⟨i081, hi081, _, hsz81, _⟩ := info_parts info5
          have hroom81 : l0.length ≤ c0 := (Kd.V_reads' HO_0.out).2.1
          have hC81 : Kd.F (Kd.int .u8) _ _ (some ad273) l0.length l0 := (Kd.V_at (base := w.heap.size) HO_0.out).2.2
          have hcut81 := cut_to (P := Try.prog) 23 5 .i64 Try.underlying23 hi081 (some ad273) l0.length c0 (ji17) (of_decide_eq_true (by first | (with_reducible assumption) | assumption)) q81 hroom81
          have hr81 := Kd.F_take (m := ((ji17) : Int).toNat) hC81 (by omega)
          have hy81 : y274.length = ((ji17) : Int).toNat := (by rw [Ny274.out, List.length_take]; omega)
          rw [← Ny274.out] at hr81
          rw [← hy81] at hcut81
          have HO278 := Aside0.mk (show Kd.V (Kd.int .u8) 5 _ w.heap.size _ (.slice (some ad273) y274.length c0) y274 from Kd.V_mk (by omega) hr81)
          have HC278 := Aside0.mk (show y274.length ≤ c0 from by omega)
          clear hr81 hC81 hroom81 hi081 hsz81
          have KY81 := Aside0.mk hy81
          clear hy81
          replace q81 := eq_true q81
          go_wp2_with (first | ((with_reducible refine gate_callee (f := 49) rfl ?_); refine goesL_ (some 36) rfl rfl Try.func49 (by kernel_rfl) rfl #[.slice (some ad273) y274.length c0] rfl (by (try simp only [List.map_toArray, List.map_cons, List.map_nil]); first | done | rfl | (simp only [List.length_drop, List.length_take]; rfl) | (go_simp; done) | (go_simp; omega)) ?_; (with_reducible refine (towroperef02_Sum.calls kj5 _ _ y274 t279 _ ?side1 ?side2 A20.out).mono ?_); (case side1 => repeat (first | exact (Kd.V_reads' HO278.out).2.2 | (with_reducible refine Kd.C_alloc ?_ _) | (with_reducible refine Kd.C_drewN ?_ _) | (with_reducible refine Kd.C_drew ?_))); (case side2 => exact (Kd.V_reads' HO278.out).2.1); rintro e w' ⟨rfl, ⟨nd, rfl⟩⟩; refine ⟨_, rfl, ?_⟩; (try (rw [drewN_self wc]; generalize hq_ : World.drewN wc _ = wc; have n0_ : Aside0 (Kd.V (Kd.int .u8) 5 wc w.heap.size (fun k_ => (P0_ k_ ∨ w.heap.size ≤ k_) ∧ k_ ≠ gb270) (.slice (some ad273) y274.length c0) y274) := ⟨by rw [← hq_]; exact (by (with_reducible repeat (first | apply Kd.V_alloc | apply Kd.V_drewN | apply Kd.V_drew)); exact HO278.out)⟩; have n1_ : Aside0 (Kd.V (Kd.int .u8) 5 wc w.heap.size (fun k_ => (P0_ k_ ∨ w.heap.size ≤ k_) ∧ k_ ≠ gb270) (.slice (some ad273) l0.length c0) l0) := ⟨by rw [← hq_]; exact (by (with_reducible repeat (first | apply Kd.V_alloc | apply Kd.V_drewN | apply Kd.V_drew)); exact HO_0.out)⟩; have n2_ : Aside0 (wc.heap[gb270]? = some (.cells #[.int .u8 0, .int .u16 0, .bool false, .bool false, .int .i64 0, .int .u8 0, .int .u8 0, .int .u32 0, .int .u32 0, .slice none 0 0, .slice none 0 0] 37 (0, 0))) := ⟨by rw [← hq_]; exact (by (with_reducible repeat (first | refine blk_drewN ?_ _ | refine blk_drew ?_ | refine blk_alloc ?_ _)); exact BK270.out)⟩; have n3_ : Aside0 (Below w.heap.size w wc) := ⟨by rw [← hq_]; exact (by repeat (first | (with_reducible first | exact HB.out | apply below_alloc | apply pw_below_drewN | apply below_drew1 | refine below_set ?_ GE270.out) | exact HB.out))⟩; clear HO278 HO_0 BK270 HB hq_; have HO278 := n0_; have HO_0 := n1_; have BK270 := n2_; have HB := n3_; clear n0_ n1_ n2_ n3_)); have hcz82 := blk_cell BK270.out; have hfz82 := blk_frozen BK270.out; have hfz82_10 := blk_frozen BK270.out 10) | ((with_reducible refine gate_store (t := 37) (p := 2) rfl ?_); refine store_event (t := 37) (p := 2) (v := ?vo_w83) (w1 := (((((((((((wc.setCell ⟨gb270, 0, none⟩ (.int .u8 0)).setCell ⟨gb270, 1, none⟩ (.int .u16 0)).setCell ⟨gb270, 2, none⟩ (.bool false)).setCell ⟨gb270, 3, none⟩ (.bool false)).setCell ⟨gb270, 4, none⟩ (.int .i64 0)).setCell ⟨gb270, 5, none⟩ (.int .u8 0)).setCell ⟨gb270, 6, none⟩ (.int .u8 0)).setCell ⟨gb270, 7, none⟩ (.int .u32 0)).setCell ⟨gb270, 8, none⟩ (.int .u32 0)).setCell ⟨gb270, 9, none⟩ (.slice none 0 0)).setCell ⟨gb270, 10, none⟩ (.slice none 0 0))) ?hg ?ho ?hn ?hr ?_; (case ho => rfl); (case hg => rfl); (case hn => rfl); (case hr => first | (go_simp; done) | (go_simp; rfl)); intro w83 hw; have n0_ : Aside0 (Kd.V (Kd.int .u8) 5 w83 w.heap.size (fun k_ => (P0_ k_ ∨ w.heap.size ≤ k_) ∧ k_ ≠ gb270) (.slice (some ad273) l0.length c0) l0) := ⟨(by rw [hw]; exact (by (with_reducible repeat (first | apply Kd.V_alloc | apply Kd.V_drewN | apply Kd.V_drew)); exact Kd.V_mono (Kd.V_far (Kd.V_far (Kd.V_far (Kd.V_far (Kd.V_far (Kd.V_far (Kd.V_far (Kd.V_far (Kd.V_far (Kd.V_far (Kd.V_far (Kd.V_mono HO_0.out (fun k_ hk => (⟨hk, hk.2⟩ : _ ∧ k_ ≠ gb270))) (fun _ hk => hk.2) _) (fun _ hk => hk.2) _) (fun _ hk => hk.2) _) (fun _ hk => hk.2) _) (fun _ hk => hk.2) _) (fun _ hk => hk.2) _) (fun _ hk => hk.2) _) (fun _ hk => hk.2) _) (fun _ hk => hk.2) _) (fun _ hk => hk.2) _) (fun _ hk => hk.2) _) (fun _ hk => ⟨hk.1.1, hk.1.2⟩)))⟩; have n1_ : Aside0 (Kd.V (Kd.int .u8) 5 w83 w.heap.size (fun k_ => (P0_ k_ ∨ w.heap.size ≤ k_) ∧ k_ ≠ gb270) (.slice (some ad273) y274.length c0) y274) := ⟨(by rw [hw]; exact (by (with_reducible repeat (first | apply Kd.V_alloc | apply Kd.V_drewN | apply Kd.V_drew)); exact Kd.V_mono (Kd.V_far (Kd.V_far (Kd.V_far (Kd.V_far (Kd.V_far (Kd.V_far (Kd.V_far (Kd.V_far (Kd.V_far (Kd.V_far (Kd.V_far (Kd.V_mono HO278.out (fun k_ hk => (⟨hk, hk.2⟩ : _ ∧ k_ ≠ gb270))) (fun _ hk => hk.2) _) (fun _ hk => hk.2) _) (fun _ hk => hk.2) _) (fun _ hk => hk.2) _) (fun _ hk => hk.2) _) (fun _ hk => hk.2) _) (fun _ hk => hk.2) _) (fun _ hk => hk.2) _) (fun _ hk => hk.2) _) (fun _ hk => hk.2) _) (fun _ hk => hk.2) _) (fun _ hk => ⟨hk.1.1, hk.1.2⟩)))⟩; have n2_ : Aside0 (w83.heap[gb270]? = some (.cells #[.int .u8 0, .int .u16 0, .bool false, .bool false, .int .i64 0, .int .u8 0, .int .u8 0, .int .u32 0, .int .u32 0, .slice none 0 0, .slice none 0 0] 37 (0, 0))) := ⟨(by rw [hw]; exact (by (with_reducible repeat (first | refine blk_drewN ?_ _ | refine blk_drew ?_ | refine blk_alloc ?_ _)); refine blk_put (cs := #[.int .u8 0, .int .u16 0, .bool false, .bool false, .int .i64 0, .int .u8 0, .int .u8 0, .int .u32 0, .int .u32 0, .slice none 0 0, .slice none 0 0]) ?_ 10 _ rfl; (with_reducible repeat (first | refine blk_drewN ?_ _ | refine blk_drew ?_ | refine blk_alloc ?_ _)); refine blk_put (cs := #[.int .u8 0, .int .u16 0, .bool false, .bool false, .int .i64 0, .int .u8 0, .int .u8 0, .int .u32 0, .int .u32 0, .slice none 0 0, .slice none 0 0]) ?_ 9 _ rfl; (with_reducible repeat (first | refine blk_drewN ?_ _ | refine blk_drew ?_ | refine blk_alloc ?_ _)); refine blk_put (cs := #[.int .u8 0, .int .u16 0, .bool false, .bool false, .int .i64 0, .int .u8 0, .int .u8 0, .int .u32 0, .int .u32 0, .slice none 0 0, .slice none 0 0]) ?_ 8 _ rfl; (with_reducible repeat (first | refine blk_drewN ?_ _ | refine blk_drew ?_ | refine blk_alloc ?_ _)); refine blk_put (cs := #[.int .u8 0, .int .u16 0, .bool false, .bool false, .int .i64 0, .int .u8 0, .int .u8 0, .int .u32 0, .int .u32 0, .slice none 0 0, .slice none 0 0]) ?_ 7 _ rfl; (with_reducible repeat (first | refine blk_drewN ?_ _ | refine blk_drew ?_ | refine blk_alloc ?_ _)); refine blk_put (cs := #[.int .u8 0, .int .u16 0, .bool false, .bool false, .int .i64 0, .int .u8 0, .int .u8 0, .int .u32 0, .int .u32 0, .slice none 0 0, .slice none 0 0]) ?_ 6 _ rfl; (with_reducible repeat (first | refine blk_drewN ?_ _ | refine blk_drew ?_ | refine blk_alloc ?_ _)); refine blk_put (cs := #[.int .u8 0, .int .u16 0, .bool false, .bool false, .int .i64 0, .int .u8 0, .int .u8 0, .int .u32 0, .int .u32 0, .slice none 0 0, .slice none 0 0]) ?_ 5 _ rfl; (with_reducible repeat (first | refine blk_drewN ?_ _ | refine blk_drew ?_ | refine blk_alloc ?_ _)); refine blk_put (cs := #[.int .u8 0, .int .u16 0, .bool false, .bool false, .int .i64 0, .int .u8 0, .int .u8 0, .int .u32 0, .int .u32 0, .slice none 0 0, .slice none 0 0]) ?_ 4 _ rfl; (with_reducible repeat (first | refine blk_drewN ?_ _ | refine blk_drew ?_ | refine blk_alloc ?_ _)); refine blk_put (cs := #[.int .u8 0, .int .u16 0, .bool false, .bool false, .int .i64 0, .int .u8 0, .int .u8 0, .int .u32 0, .int .u32 0, .slice none 0 0, .slice none 0 0]) ?_ 3 _ rfl; (with_reducible repeat (first | refine blk_drewN ?_ _ | refine blk_drew ?_ | refine blk_alloc ?_ _)); refine blk_put (cs := #[.int .u8 0, .int .u16 0, .bool false, .bool false, .int .i64 0, .int .u8 0, .int .u8 0, .int .u32 0, .int .u32 0, .slice none 0 0, .slice none 0 0]) ?_ 2 _ rfl; (with_reducible repeat (first | refine blk_drewN ?_ _ | refine blk_drew ?_ | refine blk_alloc ?_ _)); refine blk_put (cs := #[.int .u8 0, .int .u16 0, .bool false, .bool false, .int .i64 0, .int .u8 0, .int .u8 0, .int .u32 0, .int .u32 0, .slice none 0 0, .slice none 0 0]) ?_ 1 _ rfl; (with_reducible repeat (first | refine blk_drewN ?_ _ | refine blk_drew ?_ | refine blk_alloc ?_ _)); refine blk_put (cs := #[.int .u8 0, .int .u16 0, .bool false, .bool false, .int .i64 0, .int .u8 0, .int .u8 0, .int .u32 0, .int .u32 0, .slice none 0 0, .slice none 0 0]) ?_ 0 _ rfl; (with_reducible repeat (first | refine blk_drewN ?_ _ | refine blk_drew ?_ | refine blk_alloc ?_ _)); exact BK270.out))⟩; have n3_ : Aside0 (Below w.heap.size w w83) := ⟨(by rw [hw]; exact (by repeat (first | (with_reducible first | exact HB.out | apply below_alloc | apply pw_below_drewN | apply below_drew1 | refine below_set ?_ GE270.out) | exact HB.out)))⟩; clear hw; clear HO_0; clear HO278; clear BK270; clear HB; have HO_0 := n0_; have HO278 := n1_; have BK270 := n2_; have HB := n3_; clear n0_ n1_ n2_ n3_))
          refine bodyPost_ret (results_ct rfl _ _ gb270 37 #[.int .u8 0, .int .u16 0, .bool false, .bool false, .int .i64 0, .int .u8 0, .int .u8 0, .int .u32 0, .int .u32 0, .slice none 0 0, .slice none 0 0] (0, 0) _ rfl (by (with_reducible repeat (first | refine blk_drewN ?_ _ | refine blk_drew ?_ | refine blk_alloc ?_ _)); exact BK270.out) Try.underlying37 rfl (by kernel_rfl)) rfl ?_
          exact ⟨_, _, by first | rfl | (simp [errW_none, errW_some] <;> rfl) | (simp only [← hji17]; first | rfl | (simp [errW_none, errW_some] <;> rfl)) | (simp [*, errW_none, errW_some] <;> rfl), Kd.V_nil _ _ _ _ _, Kd.V_nil _ _ _ _ _, by repeat (first | (with_reducible first | exact HB.out | apply below_alloc | apply pw_below_drewN | apply below_drew1 | refine below_set ?_ GE270.out) | exact HB.out)⟩
        ·
         rw [if_neg c19] at H
         exact absurd H (by simp)
       ·
        rw [if_neg c18] at H
        exact absurd H (by simp)
     ·
      rw [if_neg c13] at H
      exact absurd H (by simp)

end Go.Proofs.Ytdphjljbdodonaa.PIpL
