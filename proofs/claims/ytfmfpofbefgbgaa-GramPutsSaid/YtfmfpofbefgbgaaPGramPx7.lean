-- Laid by a program of this session (wip/tools/mk.py) over the kit's print: functions, contracts, walks; not written by hand, not trusted: Lean checks it.
import Derived.Test.YtfmfpofbefgbgaaPGramPx0
import Derived.Test.YtfmfpofbefgbgaaPGramPx1
import Derived.Test.YtfmfpofbefgbgaaPGramPx3
import Derived.Test.YtfmfpofbefgbgaaPGramPx5
import Derived.Test.YtfmfpofbefgbgaaPGramPx6
namespace Go.Proofs.Ytfmfpofbefgbgaa.PGramP
open Go.RowKit Go.Proofs.YtfmfpofbefgbgaaW.PrintWords Go.Proofs.YtfmfpofbefgbgaaW.PrintLast Go.Proofs.YtfmfpofbefgbgaaW.PrintMore
attribute [local go_sem] max2_int min2_int max_two min_two max_three min_three max_four min_four   -- for this text's walks alone
set_option linter.unusedVariables false
set_option linter.unusedSimpArgs false

/-! ### towropelaw08_GramPuts: function 14 -/
mutual
def towropelaw08_GramPuts.j0 : Nat → Int → Int → List Int → Bool → Int → Int → List Int → Option (Bool)
 | 0, _, _, _, _, _, _, _ => none
 | k + 1, x0, x1, x3, x27, x284000, x284001, x284002 => if x27 = true then ((towropelaw08_live.f k).bind fun t284 => (some t284)) else ((gram_Put.f k x0 x1 x284000 x284001 x284002).bind fun bt285 => ((gram_Bare.f k x284000 x284001 x284002).bind fun bt289 => (if (x284002.length : Int) > 65507 then (if (wrap64 ((bt285.1.length : Int) + (bt289.1.length : Int))) = 0 then ((towropelaw08_code.f bt285.2).bind fun t293 => (if t293 = 9 then ((towropelaw08_code.f bt289.2).bind fun t294 => (if t294 = 9 then ((towropelaw08_live.f k).bind fun t295 => (some t295)) else (some false))) else (some false))) else (some false)) else ((towropelaw08_code.f bt285.2).bind fun t296 => ((towropelaw08_code.f bt289.2).bind fun t297 => (if (wrap64 (t296 + t297)) = 0 then ((towroperef08_Check.f k x0 x1 x284000 x284001 x284002).bind fun t298 => ((towroperef08_Bytes.f x284000 x284001 x284002 t298).bind fun t299 => (if (strOfNums bt285.1).toList = (strOfNums t299).toList then ((towroperef08_Bytes.f x284000 x284001 x284002 0).bind fun t302 => (towropelaw08_GramPuts.j1 k x3 x0 x1 bt285.1 bt289.1 ((strOfNums bt289.1).toList != (strOfNums t302).toList) x284000 x284001 x284002)) else (towropelaw08_GramPuts.j1 k x3 x0 x1 bt285.1 bt289.1 true x284000 x284001 x284002)))) else (towropelaw08_GramPuts.j1 k x3 x0 x1 bt285.1 bt289.1 true x284000 x284001 x284002)))))))
def towropelaw08_GramPuts.j1 : Nat → List Int → Int → Int → List Int → List Int → Bool → Int → Int → List Int → Option (Bool)
 | 0, _, _, _, _, _, _, _, _, _ => none
 | k + 1, x3, x9, x10, x11, x13, x91, x284000, x284001, x284002 => if x91 = true then (some false) else ((some (([] : List Int) : List Int)).bind fun y305 => (if y305.length + x11.length < 140737488355328 then ((some (y305 ++ x11 : List Int)).bind fun y308 => (if y308.length + x3.length < 140737488355328 then ((gram_Get.f k x9 x10 (y308 ++ x3)).bind fun bt314 => ((gram_Get.f k x10 x9 x13).bind fun bt321 => ((towropelaw08_code.f bt314.2.2.2).bind fun t328 => ((towropelaw08_code.f bt321.2.2.2).bind fun t329 => (if (wrap64 (t328 + t329)) = 0 then ((towroperef08_Same.f bt314.1 bt314.2.1 bt314.2.2.1 x284000 x284001 x284002).bind fun t330 => (if t330 = true then ((towroperef08_Same.f bt321.1 bt321.2.1 bt321.2.2.1 x284000 x284001 x284002).bind fun t331 => (if t331 = true then ((gram_Same.f bt314.1 bt314.2.1 bt314.2.2.1 bt321.1 bt321.2.1 bt321.2.2.1).bind fun t332 => (if t332 = true then ((towropelaw08_live.f k).bind fun t333 => (some t333)) else (some false))) else (some false))) else (some false))) else (some false)))))) else (none))) else (none)))
end
def towropelaw08_GramPuts.f (k : Nat) (a0 : Int) (a1 : Int) (a2_0 : Int) (a2_1 : Int) (l2_2 : List Int) (l3 : List Int) : Option (Bool) := if (l2_2.length : Int) > 70000 then (towropelaw08_GramPuts.j0 k a0 a1 l3 true a2_0 a2_1 l2_2) else (towropelaw08_GramPuts.j0 k a0 a1 l3 (decide ((l3.length : Int) > 1000)) a2_0 a2_1 l2_2)
theorem towropelaw08_GramPuts.mono_l : ∀ k, (∀ y0 y1 y2 y3 y4 y5 y6, LeO (towropelaw08_GramPuts.j0 k y0 y1 y2 y3 y4 y5 y6) (towropelaw08_GramPuts.j0 (k + 1) y0 y1 y2 y3 y4 y5 y6)) ∧ (∀ y0 y1 y2 y3 y4 y5 y6 y7 y8, LeO (towropelaw08_GramPuts.j1 k y0 y1 y2 y3 y4 y5 y6 y7 y8) (towropelaw08_GramPuts.j1 (k + 1) y0 y1 y2 y3 y4 y5 y6 y7 y8))
 | 0 => ⟨fun _ _ _ _ _ _ _ r h => by simp [towropelaw08_GramPuts.j0] at h, fun _ _ _ _ _ _ _ _ _ r h => by simp [towropelaw08_GramPuts.j1] at h⟩
 | k + 1 => by
  obtain ⟨ih0, ih1⟩ := towropelaw08_GramPuts.mono_l k
  refine ⟨?_, ?_⟩
  ·
   intro y0 y1 y2 y3 y4 y5 y6
   unfold towropelaw08_GramPuts.j0
   repeat' first
   | (with_reducible exact ih0 _ _ _ _ _ _ _)
   | (with_reducible exact ih1 _ _ _ _ _ _ _ _ _)
   | (with_reducible exact gram_Bare.mono _ _ _ _)
   | (with_reducible exact gram_Get.mono _ _ _ _)
   | (with_reducible exact gram_Put.mono _ _ _ _ _ _)
   | (with_reducible exact towropelaw08_live.mono _)
   | (with_reducible exact towroperef08_Check.mono _ _ _ _ _ _)
   | (with_reducible exact LeO.refl _)
   | (with_reducible exact LeO.none _)
   | (with_reducible refine LeO.ite ?_ ?_)
   | (with_reducible refine LeO.bind ?_ (fun _ => ?_))
   | exact ih0 _ _ _ _ _ _ _
   | exact ih1 _ _ _ _ _ _ _ _ _
   | exact gram_Bare.mono _ _ _ _
   | exact gram_Get.mono _ _ _ _
   | exact gram_Put.mono _ _ _ _ _ _
   | exact towropelaw08_live.mono _
   | exact towroperef08_Check.mono _ _ _ _ _ _
   | exact LeO.none _
   | refine LeO.ite ?_ ?_
   | refine LeO.bind ?_ (fun _ => ?_)
  ·
   intro y0 y1 y2 y3 y4 y5 y6 y7 y8
   unfold towropelaw08_GramPuts.j1
   repeat' first
   | (with_reducible exact ih0 _ _ _ _ _ _ _)
   | (with_reducible exact ih1 _ _ _ _ _ _ _ _ _)
   | (with_reducible exact gram_Bare.mono _ _ _ _)
   | (with_reducible exact gram_Get.mono _ _ _ _)
   | (with_reducible exact gram_Put.mono _ _ _ _ _ _)
   | (with_reducible exact towropelaw08_live.mono _)
   | (with_reducible exact towroperef08_Check.mono _ _ _ _ _ _)
   | (with_reducible exact LeO.refl _)
   | (with_reducible exact LeO.none _)
   | (with_reducible refine LeO.ite ?_ ?_)
   | (with_reducible refine LeO.bind ?_ (fun _ => ?_))
   | exact ih0 _ _ _ _ _ _ _
   | exact ih1 _ _ _ _ _ _ _ _ _
   | exact gram_Bare.mono _ _ _ _
   | exact gram_Get.mono _ _ _ _
   | exact gram_Put.mono _ _ _ _ _ _
   | exact towropelaw08_live.mono _
   | exact towroperef08_Check.mono _ _ _ _ _ _
   | exact LeO.none _
   | refine LeO.ite ?_ ?_
   | refine LeO.bind ?_ (fun _ => ?_)
theorem towropelaw08_GramPuts.mono : ∀ a0 a1 a2 a3 a4 a5 k, LeO (towropelaw08_GramPuts.f k a0 a1 a2 a3 a4 a5) (towropelaw08_GramPuts.f (k + 1) a0 a1 a2 a3 a4 a5) := by
 intro a0 a1 a2 a3 a4 a5 k
 obtain ⟨ih0, ih1⟩ := towropelaw08_GramPuts.mono_l k
 unfold towropelaw08_GramPuts.f
 repeat' first
   | (with_reducible exact ih0 _ _ _ _ _ _ _)
   | (with_reducible exact ih1 _ _ _ _ _ _ _ _ _)
   | (with_reducible exact gram_Bare.mono _ _ _ _)
   | (with_reducible exact gram_Get.mono _ _ _ _)
   | (with_reducible exact gram_Put.mono _ _ _ _ _ _)
   | (with_reducible exact towropelaw08_live.mono _)
   | (with_reducible exact towroperef08_Check.mono _ _ _ _ _ _)
   | (with_reducible exact LeO.refl _)
   | (with_reducible exact LeO.none _)
   | (with_reducible refine LeO.ite ?_ ?_)
   | (with_reducible refine LeO.bind ?_ (fun _ => ?_))
   | exact ih0 _ _ _ _ _ _ _
   | exact ih1 _ _ _ _ _ _ _ _ _
   | exact gram_Bare.mono _ _ _ _
   | exact gram_Get.mono _ _ _ _
   | exact gram_Put.mono _ _ _ _ _ _
   | exact towropelaw08_live.mono _
   | exact towroperef08_Check.mono _ _ _ _ _ _
   | exact LeO.none _
   | refine LeO.ite ?_ ?_
   | refine LeO.bind ?_ (fun _ => ?_)
def towropelaw08_GramPuts.T8 : Bool × List (List Nat × List Nat) := (true, [([], []), ([0], [0]), ([], []), ([2, 1], [2]), ([1, 3], [1, 3]), ([4], [4]), ([5, 3], [5]), ([6], [6]), ([7, 6], [6, 7]), ([6], [6]), ([6], [6]), ([6], [6]), ([6], [6]), ([10, 11, 12, 6, 6], [6, 10, 11, 12]), ([9, 13, 13, 6], [6, 9, 13]), ([14, 6], [6, 14]), ([8, 15, 6], [6, 8, 15]), ([6, 16], [6, 16]), ([17, 14], [17]), ([18], [18]), ([19, 18], [18, 19]), ([18], [18]), ([21, 18, 18], [18, 21]), ([22, 18], [18, 22]), ([20, 23, 18], [18, 20, 23]), ([18, 24], [18, 24])])
def towropelaw08_GramPuts.B8 : List Nat := [0, 1, 0, 7, 15, 31, 63, 127, 255, 127, 127, 127, 127, 7295, 15999, 32383, 65535, 131071, 262143, 524287, 1048575, 524287, 2621439, 6815743, 16777215, 33554431]
theorem towropelaw08_GramPuts.tab8 : rtab .any (opsOf Try.f14 8) = towropelaw08_GramPuts.T8 := by kernel_rfl
theorem towropelaw08_GramPuts.bits8 : waitsOk towropelaw08_GramPuts.T8.2 towropelaw08_GramPuts.B8 = true := by kernel_rfl
set_option maxHeartbeats 8000000 in
set_option maxRecDepth 100000 in
theorem towropelaw08_GramPuts.calls (k : Nat) (a0 : Int) (a1 : Int) (a2_0 : Int) (a2_1 : Int) (A2_2 : Option Addr) (c2_2 : Nat) (l2_2 : List Int) (A3 : Option Addr) (c3 : Nat) (l3 : List Int) (r : Bool) (hrt : r = true) (w : World) (hr2_2 : Kd.C (Kd.int .u8) w A2_2 l2_2.length l2_2) (hc2_2 : l2_2.length ≤ c2_2) (hr3 : Kd.C (Kd.int .u8) w A3 l3.length l3) (hc3 : l3.length ≤ c3) (h : towropelaw08_GramPuts.f k a0 a1 a2_0 a2_1 l2_2 l3 = some r) :
  Calls Try.prog 14 #[.int .u32 a0, .int .u32 a1, .agg #[.int .u16 a2_0, .int .u16 a2_1, .slice A2_2 l2_2.length c2_2], .slice A3 l3.length c3] w fun e w' => e = .returned (.bool r) ∧ Below w.heap.size w w' := by
 have HRT := Aside0.mk hrt
 clear hrt
 have hu80 := Try.underlying80
 have HR2_2 := Aside0.mk hr2_2
 have HC2_2 := Aside0.mk hc2_2
 clear hr2_2 hc2_2
 have HR3 := Aside0.mk hr3
 have HC3 := Aside0.mk hc3
 clear hr3 hc3
 have HB := Aside0.mk (Below.refl w.heap.size w)
 have H : (if (l2_2.length : Int) > 70000 then (towropelaw08_GramPuts.j0 k a0 a1 l3 true a2_0 a2_1 l2_2) else (towropelaw08_GramPuts.j0 k a0 a1 l3 (decide ((l3.length : Int) > 1000)) a2_0 a2_1 l2_2)) = some r := h
 clear h
 have HC5 := Aside0.mk H
 clear H
 go_enter Try.func14, Try.ntmps14
 go_upto_region 1 with (first | ((with_reducible refine gate_dst (N := 6) rfl ?_); (try (refine gate_guard (by rfl) ?_; dsimp only)); refine box_event ?hg (N := 6) ?hd (cs := #[.int .u16 a2_0, .int .u16 a2_1, .slice A2_2 l2_2.length c2_2]) (t := 80) ?hr ?_; (case hd => rfl); (case hg => rfl); (case hr => first | (go_simp; done) | (go_simp; rfl)); intro gb283 hg w6 hbox hb; have n0_ := Aside0.mk (below_step (by repeat (first | (with_reducible first | exact HB.out | apply below_alloc | apply pw_below_drewN | apply below_drew1) | exact HB.out)) hb); have n1_ := Aside0.mk (hbox); have n2_ := Aside0.mk ((by rw [hg]; exact (below_size (by repeat (first | (with_reducible first | exact HB.out | apply below_alloc | apply pw_below_drewN | apply below_drew1) | exact HB.out))) : w.heap.size ≤ gb283)); have n3_ := Aside0.mk ((by rw [hg]; exact (below_size (by repeat (first | (with_reducible first | exact HB.out | apply below_alloc | apply pw_below_drewN | apply below_drew1) | exact HB.out))) : w.heap.size ≤ gb283)); clear HB; have HB := n0_; have BK283 := n1_; have GW283 := n2_; have GE283 := n3_; clear n0_ n1_ n2_ n3_; clear hb hbox hg))
 (try simp only [Act.put, List.setIfInBounds_toArray, List.set_cons_zero, List.set_cons_succ])
 go_cut [27] (fun v27 wc => ∃ (kq : Nat) (x27_4 : Bool), v27 = .bool x27_4 ∧ Aside0 (towropelaw08_GramPuts.j0 kq a0 a1 l3 x27_4 a2_0 a2_1 l2_2 = some r) ∧ Aside0 (kq ≤ k) ∧ Aside0 (wc.heap[gb283]? = some (.cells #[.int .u16 a2_0, .int .u16 a2_1, (.slice A2_2 l2_2.length c2_2)] 80 (0, 0))) ∧ Aside0 (Below w.heap.size w wc))
 case first =>
  have H := HC5.out
  clear HC5
  by_cases c7 : (l2_2.length : Int) > 70000
  ·
   rw [if_pos c7] at H
   have c7b0 : decide (70000 < (l2_2.length : Int)) = true := decide_eq_true c7
   have c7b1 : decide (70000 < l2_2.length) = true := decide_eq_true (by omega)
   clear c7
   (first | rw [c7b0] | (simp only [i64_w, i32_w]; rw [c7b0]) | skip)
   have H' := Aside0.mk H
   clear H
   have hcz8_0 : w6.cell? ⟨gb283, 0, none⟩ = some (.int .u16 a2_0) := (blk_cell BK283.out 0).trans rfl
   have hcz8_1 : w6.cell? ⟨gb283, 1, none⟩ = some (.int .u16 a2_1) := (blk_cell BK283.out 1).trans rfl
   have hcz8_2 : w6.cell? ⟨gb283, 2, none⟩ = some (.slice A2_2 l2_2.length c2_2) := (blk_cell BK283.out 2).trans rfl
   have hfz8_0 := blk_frozen BK283.out 0
   have hfz8_1 := blk_frozen BK283.out 1
   have hfz8_2 := blk_frozen BK283.out 2
   go_wp2
   go_meet
   case rel => exact ⟨_, (true), (by first | rfl | (simp; done) | (simp [*]; done)), H', ⟨by first | omega | exact Nat.le_refl _⟩, ⟨by (with_reducible repeat (first | refine blk_drewN ?_ _ | refine blk_drew ?_ | refine blk_alloc ?_ _)); exact BK283.out⟩, ⟨by repeat (first | (with_reducible first | exact HB.out | apply below_alloc | apply pw_below_drewN | apply below_drew1 | refine below_set ?_ GE283.out) | exact HB.out)⟩⟩
  ·
   rw [if_neg c7] at H
   have c7b0 : decide (70000 < (l2_2.length : Int)) = false := decide_eq_false c7
   have c7b1 : decide (70000 < l2_2.length) = false := decide_eq_false (by omega)
   clear c7
   (first | rw [c7b0] | (simp only [i64_w, i32_w]; rw [c7b0]) | skip)
   have H' := Aside0.mk H
   clear H
   have hcz9_0 : w6.cell? ⟨gb283, 0, none⟩ = some (.int .u16 a2_0) := (blk_cell BK283.out 0).trans rfl
   have hcz9_1 : w6.cell? ⟨gb283, 1, none⟩ = some (.int .u16 a2_1) := (blk_cell BK283.out 1).trans rfl
   have hcz9_2 : w6.cell? ⟨gb283, 2, none⟩ = some (.slice A2_2 l2_2.length c2_2) := (blk_cell BK283.out 2).trans rfl
   have hfz9_0 := blk_frozen BK283.out 0
   have hfz9_1 := blk_frozen BK283.out 1
   have hfz9_2 := blk_frozen BK283.out 2
   go_wp2
   go_meet
   case rel => exact ⟨_, (decide ((l3.length : Int) > 1000)), (by first | rfl | (simp; done) | (simp [*]; done)), H', ⟨by first | omega | exact Nat.le_refl _⟩, ⟨by (with_reducible repeat (first | refine blk_drewN ?_ _ | refine blk_drew ?_ | refine blk_alloc ?_ _)); exact BK283.out⟩, ⟨by repeat (first | (with_reducible first | exact HB.out | apply below_alloc | apply pw_below_drewN | apply below_drew1 | refine below_set ?_ GE283.out) | exact HB.out)⟩⟩
 case rest =>
  clear HC5
  try clear c1
  try clear c2
  try clear p2
  try clear c3
  try clear c7
  try clear c7b0
  try clear c7b1
  try clear hcz8_0
  try clear hcz8_1
  try clear hcz8_2
  try clear hcz9_0
  try clear hcz9_1
  try clear hcz9_2
  try clear hfz8_0
  try clear hfz8_1
  try clear hfz8_2
  try clear hfz9_0
  try clear hfz9_1
  try clear hfz9_2
  obtain ⟨kq, x27_4, rfl, HA, HJ4, BK283, HB⟩ := hcut
  cases kq with
  | zero => exact absurd HA.out (by simp [towropelaw08_GramPuts.j0])
  | succ kj4 =>
   have H := HA.out
   clear HA
   simp only [towropelaw08_GramPuts.j0] at H
   by_cases c10 : x27_4 = true
   ·
    subst c10
    have H1 : ((towropelaw08_live.f kj4).bind fun t284 => (some t284)) = some r := by rw [if_pos rfl] at H; exact H
    clear H
    have H := H1
    clear H1
    replace H := Option.bind_eq_some_iff.mp H
    obtain ⟨t284, A110, H⟩ := H
    replace H : (some t284) = some r := H
    have A11 := Aside0.mk A110
    clear A110
    obtain rfl := Option.some.inj H
    go_wp2_with (first | ((with_reducible refine gate_callee (f := 45) rfl ?_); refine goesL_ (some 28) rfl rfl Try.func45 (by kernel_rfl) rfl #[] rfl (by (try simp only [List.map_toArray, List.map_cons, List.map_nil]); first | done | rfl | (simp only [List.length_drop, List.length_take]; rfl) | (go_simp; done) | (go_simp; omega)) ?_; (with_reducible refine (towropelaw08_live.calls kj4  t284 _ A11.out).mono ?_); rintro e w12 ⟨rfl, hb⟩; refine ⟨_, rfl, ?_⟩; have n0_ := Aside0.mk (blk_below (g := gb283) (o := .cells #[.int .u16 a2_0, .int .u16 a2_1, .slice A2_2 l2_2.length c2_2] 80 (0, 0)) (by (with_reducible repeat (first | refine blk_drewN ?_ _ | refine blk_drew ?_ | refine blk_alloc ?_ _)); exact BK283.out) hb); have n1_ := Aside0.mk (below_step (by repeat (first | (with_reducible first | exact HB.out | apply below_alloc | apply pw_below_drewN | apply below_drew1 | refine below_set ?_ GE283.out) | exact HB.out)) hb); clear BK283; clear HB; have BK283 := n0_; have HB := n1_; clear n0_ n1_; (try clear hb); (try clear hb2); (try clear hk); (try clear hi)))
    go_ret
    exact ⟨by first | rfl | (simp [errW_none, errW_some] <;> rfl) | (simp [*, errW_none, errW_some] <;> rfl), by repeat (first | (with_reducible first | exact HB.out | apply below_alloc | apply pw_below_drewN | apply below_drew1 | refine below_set ?_ GE283.out) | exact HB.out)⟩
   ·
    replace c10 := Bool.eq_false_iff.mpr c10
    subst c10
    have H1 : ((gram_Put.f kj4 a0 a1 a2_0 a2_1 l2_2).bind fun bt285 => ((gram_Bare.f kj4 a2_0 a2_1 l2_2).bind fun bt289 => (if (l2_2.length : Int) > 65507 then (if (wrap64 ((bt285.1.length : Int) + (bt289.1.length : Int))) = 0 then ((towropelaw08_code.f bt285.2).bind fun t293 => (if t293 = 9 then ((towropelaw08_code.f bt289.2).bind fun t294 => (if t294 = 9 then ((towropelaw08_live.f kj4).bind fun t295 => (some t295)) else (some false))) else (some false))) else (some false)) else ((towropelaw08_code.f bt285.2).bind fun t296 => ((towropelaw08_code.f bt289.2).bind fun t297 => (if (wrap64 (t296 + t297)) = 0 then ((towroperef08_Check.f kj4 a0 a1 a2_0 a2_1 l2_2).bind fun t298 => ((towroperef08_Bytes.f a2_0 a2_1 l2_2 t298).bind fun t299 => (if (strOfNums bt285.1).toList = (strOfNums t299).toList then ((towroperef08_Bytes.f a2_0 a2_1 l2_2 0).bind fun t302 => (towropelaw08_GramPuts.j1 kj4 l3 a0 a1 bt285.1 bt289.1 ((strOfNums bt289.1).toList != (strOfNums t302).toList) a2_0 a2_1 l2_2)) else (towropelaw08_GramPuts.j1 kj4 l3 a0 a1 bt285.1 bt289.1 true a2_0 a2_1 l2_2)))) else (towropelaw08_GramPuts.j1 kj4 l3 a0 a1 bt285.1 bt289.1 true a2_0 a2_1 l2_2))))))) = some r := by rw [if_neg (show ¬ (false = true) by decide)] at H; exact H
    clear H
    have H := H1
    clear H1
    replace H := Option.bind_eq_some_iff.mp H
    obtain ⟨⟨t285, t288⟩, A130, H⟩ := H
    replace H : ((gram_Bare.f kj4 a2_0 a2_1 l2_2).bind fun bt289 => (if (l2_2.length : Int) > 65507 then (if (wrap64 ((t285.length : Int) + (bt289.1.length : Int))) = 0 then ((towropelaw08_code.f t288).bind fun t293 => (if t293 = 9 then ((towropelaw08_code.f bt289.2).bind fun t294 => (if t294 = 9 then ((towropelaw08_live.f kj4).bind fun t295 => (some t295)) else (some false))) else (some false))) else (some false)) else ((towropelaw08_code.f t288).bind fun t296 => ((towropelaw08_code.f bt289.2).bind fun t297 => (if (wrap64 (t296 + t297)) = 0 then ((towroperef08_Check.f kj4 a0 a1 a2_0 a2_1 l2_2).bind fun t298 => ((towroperef08_Bytes.f a2_0 a2_1 l2_2 t298).bind fun t299 => (if (strOfNums t285).toList = (strOfNums t299).toList then ((towroperef08_Bytes.f a2_0 a2_1 l2_2 0).bind fun t302 => (towropelaw08_GramPuts.j1 kj4 l3 a0 a1 t285 bt289.1 ((strOfNums bt289.1).toList != (strOfNums t302).toList) a2_0 a2_1 l2_2)) else (towropelaw08_GramPuts.j1 kj4 l3 a0 a1 t285 bt289.1 true a2_0 a2_1 l2_2)))) else (towropelaw08_GramPuts.j1 kj4 l3 a0 a1 t285 bt289.1 true a2_0 a2_1 l2_2)))))) = some r := H
    have A13 := Aside0.mk A130
    clear A130
    replace H := Option.bind_eq_some_iff.mp H
    obtain ⟨⟨t289, t292⟩, A140, H⟩ := H
    replace H : (if (l2_2.length : Int) > 65507 then (if (wrap64 ((t285.length : Int) + (t289.length : Int))) = 0 then ((towropelaw08_code.f t288).bind fun t293 => (if t293 = 9 then ((towropelaw08_code.f t292).bind fun t294 => (if t294 = 9 then ((towropelaw08_live.f kj4).bind fun t295 => (some t295)) else (some false))) else (some false))) else (some false)) else ((towropelaw08_code.f t288).bind fun t296 => ((towropelaw08_code.f t292).bind fun t297 => (if (wrap64 (t296 + t297)) = 0 then ((towroperef08_Check.f kj4 a0 a1 a2_0 a2_1 l2_2).bind fun t298 => ((towroperef08_Bytes.f a2_0 a2_1 l2_2 t298).bind fun t299 => (if (strOfNums t285).toList = (strOfNums t299).toList then ((towroperef08_Bytes.f a2_0 a2_1 l2_2 0).bind fun t302 => (towropelaw08_GramPuts.j1 kj4 l3 a0 a1 t285 t289 ((strOfNums t289).toList != (strOfNums t302).toList) a2_0 a2_1 l2_2)) else (towropelaw08_GramPuts.j1 kj4 l3 a0 a1 t285 t289 true a2_0 a2_1 l2_2)))) else (towropelaw08_GramPuts.j1 kj4 l3 a0 a1 t285 t289 true a2_0 a2_1 l2_2))))) = some r := H
    have A14 := Aside0.mk A140
    clear A140
    by_cases c15 : (l2_2.length : Int) > 65507
    ·
     rw [if_pos c15] at H
     have c15b0 : decide (65507 < (l2_2.length : Int)) = true := decide_eq_true c15
     have c15b1 : decide (65507 < l2_2.length) = true := decide_eq_true (by omega)
     clear c15
     by_cases c16 : (wrap64 ((t285.length : Int) + (t289.length : Int))) = 0
     ·
      rw [if_pos c16] at H
      have c16b0 : ((wrap64 ((t285.length : Int) + (t289.length : Int))) == 0) = true := beq_iff_eq.mpr c16
      have c16b1 : ((wrap64 ((t285.length : Int) + (t289.length : Int))) != 0) = false := bne_eq_false_iff_eq.mpr c16
      clear c16
      replace H := Option.bind_eq_some_iff.mp H
      obtain ⟨t293, A170, H⟩ := H
      replace H : (if t293 = 9 then ((towropelaw08_code.f t292).bind fun t294 => (if t294 = 9 then ((towropelaw08_live.f kj4).bind fun t295 => (some t295)) else (some false))) else (some false)) = some r := H
      have A17 := Aside0.mk A170
      clear A170
      by_cases c18 : t293 = 9
      ·
       rw [if_pos c18] at H
       have c18b0 : (t293 == 9) = true := beq_iff_eq.mpr c18
       have c18b1 : (t293 != 9) = false := bne_eq_false_iff_eq.mpr c18
       clear c18
       replace H := Option.bind_eq_some_iff.mp H
       obtain ⟨t294, A190, H⟩ := H
       replace H : (if t294 = 9 then ((towropelaw08_live.f kj4).bind fun t295 => (some t295)) else (some false)) = some r := H
       have A19 := Aside0.mk A190
       clear A190
       by_cases c20 : t294 = 9
       ·
        rw [if_pos c20] at H
        have c20b0 : (t294 == 9) = true := beq_iff_eq.mpr c20
        have c20b1 : (t294 != 9) = false := bne_eq_false_iff_eq.mpr c20
        clear c20
        replace H := Option.bind_eq_some_iff.mp H
        obtain ⟨t295, A210, H⟩ := H
        replace H : (some t295) = some r := H
        have A21 := Aside0.mk A210
        clear A210
        obtain rfl := Option.some.inj H
        have hcz22_0 : wc.cell? ⟨gb283, 0, none⟩ = some (.int .u16 a2_0) := (blk_cell BK283.out 0).trans rfl
        have hcz22_1 : wc.cell? ⟨gb283, 1, none⟩ = some (.int .u16 a2_1) := (blk_cell BK283.out 1).trans rfl
        have hcz22_2 : wc.cell? ⟨gb283, 2, none⟩ = some (.slice A2_2 l2_2.length c2_2) := (blk_cell BK283.out 2).trans rfl
        have hfz22_0 := blk_frozen BK283.out 0
        have hfz22_1 := blk_frozen BK283.out 1
        have hfz22_2 := blk_frozen BK283.out 2
        go_wp2_with (first | ((with_reducible refine gate_callee (f := 59) rfl ?_); refine goesL_ (some 35) rfl rfl Try.func59 (by kernel_rfl) rfl #[.int .u32 a0, .int .u32 a1, .agg #[.int .u16 a2_0, .int .u16 a2_1, .slice A2_2 l2_2.length c2_2]] rfl (by (try simp only [List.map_toArray, List.map_cons, List.map_nil]); first | done | rfl | (simp only [List.length_drop, List.length_take]; rfl) | (go_simp; done) | (go_simp; omega)) ?_; (with_reducible refine (gram_Put.calls kj4 a0 a1 a2_0 a2_1 _ _ l2_2 t285 t288 _ ?side1 ?side2 A13.out).mono ?_); (case side1 => repeat (first | exact (Kd.C_below HR2_2.out HB.out) | (with_reducible refine Kd.C_alloc ?_ _) | (with_reducible refine Kd.C_drewN ?_ _) | (with_reducible refine Kd.C_drew ?_))); (case side2 => exact HC2_2.out); rintro e w23 ⟨v286, rfl, ho0, hb⟩; refine ⟨_, rfl, ?_⟩; have n0_ := Aside0.mk (Kd.R_lower ho0 (below_size (by repeat (first | (with_reducible first | exact HB.out | apply below_alloc | apply pw_below_drewN | apply below_drew1 | refine below_set ?_ GE283.out) | exact HB.out)))); have n1_ := Aside0.mk (blk_below (g := gb283) (o := .cells #[.int .u16 a2_0, .int .u16 a2_1, .slice A2_2 l2_2.length c2_2] 80 (0, 0)) (by (with_reducible repeat (first | refine blk_drewN ?_ _ | refine blk_drew ?_ | refine blk_alloc ?_ _)); exact BK283.out) hb); have n2_ := Aside0.mk (below_step (by repeat (first | (with_reducible first | exact HB.out | apply below_alloc | apply pw_below_drewN | apply below_drew1 | refine below_set ?_ GE283.out) | exact HB.out)) hb); clear BK283; clear HB; have HO287 := n0_; have BK283 := n1_; have HB := n2_; clear n0_ n1_ n2_; (try clear hb); (try clear hb2); (try clear hk); (try clear hi); (try clear ho0); have hcz24_0 : w23.cell? ⟨gb283, 0, none⟩ = some (.int .u16 a2_0) := (blk_cell BK283.out 0).trans rfl; have hcz24_1 : w23.cell? ⟨gb283, 1, none⟩ = some (.int .u16 a2_1) := (blk_cell BK283.out 1).trans rfl; have hcz24_2 : w23.cell? ⟨gb283, 2, none⟩ = some (.slice A2_2 l2_2.length c2_2) := (blk_cell BK283.out 2).trans rfl; have hfz24_0 := blk_frozen BK283.out 0; have hfz24_1 := blk_frozen BK283.out 1; have hfz24_2 := blk_frozen BK283.out 2) | ((with_reducible refine gate_callee (f := 60) rfl ?_); refine goesL_ (some 40) rfl rfl Try.func60 (by kernel_rfl) rfl #[.agg #[.int .u16 a2_0, .int .u16 a2_1, .slice A2_2 l2_2.length c2_2]] rfl (by (try simp only [List.map_toArray, List.map_cons, List.map_nil]); first | done | rfl | (simp only [List.length_drop, List.length_take]; rfl) | (go_simp; done) | (go_simp; omega)) ?_; (with_reducible refine (gram_Bare.calls kj4 a2_0 a2_1 _ _ l2_2 t289 t292 _ ?side1 ?side2 A14.out).mono ?_); (case side1 => repeat (first | exact (Kd.C_below HR2_2.out HB.out) | (with_reducible refine Kd.C_alloc ?_ _) | (with_reducible refine Kd.C_drewN ?_ _) | (with_reducible refine Kd.C_drew ?_))); (case side2 => exact HC2_2.out); rintro e w25 ⟨v290, rfl, ho0, hb⟩; refine ⟨_, rfl, ?_⟩; have n0_ := Aside0.mk (Kd.R_elder' (by (with_reducible repeat (first | apply Kd.R_alloc | apply Kd.R_drewN | apply Kd.R_drew)); exact HO287.out) (Kd.R_base ho0) hb); have n1_ := Aside0.mk (Kd.R_lower (Kd.R_new' ho0 (Kd.R_lt (by (with_reducible repeat (first | apply Kd.R_alloc | apply Kd.R_drewN | apply Kd.R_drew)); exact HO287.out))) (below_size (by repeat (first | (with_reducible first | exact HB.out | apply below_alloc | apply pw_below_drewN | apply below_drew1 | refine below_set ?_ GE283.out) | exact HB.out)))); have n2_ := Aside0.mk (blk_below (g := gb283) (o := .cells #[.int .u16 a2_0, .int .u16 a2_1, .slice A2_2 l2_2.length c2_2] 80 (0, 0)) (by (with_reducible repeat (first | refine blk_drewN ?_ _ | refine blk_drew ?_ | refine blk_alloc ?_ _)); exact BK283.out) hb); have n3_ := Aside0.mk (below_step (by repeat (first | (with_reducible first | exact HB.out | apply below_alloc | apply pw_below_drewN | apply below_drew1 | refine below_set ?_ GE283.out) | exact HB.out)) hb); clear HO287; clear BK283; clear HB; have HO287 := n0_; have HO291 := n1_; have BK283 := n2_; have HB := n3_; clear n0_ n1_ n2_ n3_; (try clear hb); (try clear hb2); (try clear hk); (try clear hi); (try clear ho0); have hcz26_0 : w25.cell? ⟨gb283, 0, none⟩ = some (.int .u16 a2_0) := (blk_cell BK283.out 0).trans rfl; have hcz26_1 : w25.cell? ⟨gb283, 1, none⟩ = some (.int .u16 a2_1) := (blk_cell BK283.out 1).trans rfl; have hcz26_2 : w25.cell? ⟨gb283, 2, none⟩ = some (.slice A2_2 l2_2.length c2_2) := (blk_cell BK283.out 2).trans rfl; have hfz26_0 := blk_frozen BK283.out 0; have hfz26_1 := blk_frozen BK283.out 1; have hfz26_2 := blk_frozen BK283.out 2; (try (obtain ⟨Ao27, co27, eo27⟩ := Kd.R_slice HO287.out; subst eo27)); (try (obtain ⟨Ao28, co28, eo28⟩ := Kd.R_slice HO291.out; subst eo28))) | (go_at_call 49; (with_reducible refine (towropelaw08_code.calls t288 t293 _ A17.out).mono ?_); rintro e w' ⟨rfl, ⟨nd, rfl⟩⟩) | (go_at_call 49; (with_reducible refine (towropelaw08_code.calls t292 t294 _ A19.out).mono ?_); rintro e w' ⟨rfl, ⟨nd, rfl⟩⟩) | (go_at_call 45; (with_reducible refine (towropelaw08_live.calls kj4  t295 _ A21.out).mono ?_); rintro e w29 ⟨rfl, hb⟩; have n0_ := Aside0.mk (Kd.R_below (by (with_reducible repeat (first | apply Kd.R_alloc | apply Kd.R_drewN | apply Kd.R_drew)); exact HO287.out) hb); have n1_ := Aside0.mk (Kd.R_below (by (with_reducible repeat (first | apply Kd.R_alloc | apply Kd.R_drewN | apply Kd.R_drew)); exact HO291.out) hb); have n2_ := Aside0.mk (blk_below (g := gb283) (o := .cells #[.int .u16 a2_0, .int .u16 a2_1, .slice A2_2 l2_2.length c2_2] 80 (0, 0)) (by (with_reducible repeat (first | refine blk_drewN ?_ _ | refine blk_drew ?_ | refine blk_alloc ?_ _)); exact BK283.out) hb); have n3_ := Aside0.mk (below_step (by repeat (first | (with_reducible first | exact HB.out | apply below_alloc | apply pw_below_drewN | apply below_drew1 | refine below_set ?_ GE283.out) | exact HB.out)) hb); clear HO287; clear HO291; clear BK283; clear HB; have HO287 := n0_; have HO291 := n1_; have BK283 := n2_; have HB := n3_; clear n0_ n1_ n2_ n3_; (try clear hb); (try clear hb2); (try clear hk); (try clear hi)))
        go_ret
        exact ⟨by first | rfl | (simp [errW_none, errW_some] <;> rfl) | (simp [*, errW_none, errW_some] <;> rfl), by repeat (first | (with_reducible first | exact HB.out | apply below_alloc | apply pw_below_drewN | apply below_drew1 | refine below_set ?_ GE283.out) | exact HB.out)⟩
       ·
        rw [if_neg c20] at H
        have c20b0 : (t294 == 9) = false := beq_eq_false_iff_ne.mpr c20
        have c20b1 : (t294 != 9) = true := bne_iff_ne.mpr c20
        exact absurd ((Option.some.inj H).trans HRT.out) (by decide)
      ·
       rw [if_neg c18] at H
       have c18b0 : (t293 == 9) = false := beq_eq_false_iff_ne.mpr c18
       have c18b1 : (t293 != 9) = true := bne_iff_ne.mpr c18
       exact absurd ((Option.some.inj H).trans HRT.out) (by decide)
     ·
      rw [if_neg c16] at H
      have c16b0 : ((wrap64 ((t285.length : Int) + (t289.length : Int))) == 0) = false := beq_eq_false_iff_ne.mpr c16
      have c16b1 : ((wrap64 ((t285.length : Int) + (t289.length : Int))) != 0) = true := bne_iff_ne.mpr c16
      exact absurd ((Option.some.inj H).trans HRT.out) (by decide)
    ·
     rw [if_neg c15] at H
     have c15b0 : decide (65507 < (l2_2.length : Int)) = false := decide_eq_false c15
     have c15b1 : decide (65507 < l2_2.length) = false := decide_eq_false (by omega)
     clear c15
     have HC51 := Aside0.mk H
     clear H
     have hcz52_0 : wc.cell? ⟨gb283, 0, none⟩ = some (.int .u16 a2_0) := (blk_cell BK283.out 0).trans rfl
     have hcz52_1 : wc.cell? ⟨gb283, 1, none⟩ = some (.int .u16 a2_1) := (blk_cell BK283.out 1).trans rfl
     have hcz52_2 : wc.cell? ⟨gb283, 2, none⟩ = some (.slice A2_2 l2_2.length c2_2) := (blk_cell BK283.out 2).trans rfl
     have hfz52_0 := blk_frozen BK283.out 0
     have hfz52_1 := blk_frozen BK283.out 1
     have hfz52_2 := blk_frozen BK283.out 2
     go_upto_region 8 with (first | ((with_reducible refine gate_callee (f := 59) rfl ?_); refine goesL_ (some 35) rfl rfl Try.func59 (by kernel_rfl) rfl #[.int .u32 a0, .int .u32 a1, .agg #[.int .u16 a2_0, .int .u16 a2_1, .slice A2_2 l2_2.length c2_2]] rfl (by (try simp only [List.map_toArray, List.map_cons, List.map_nil]); first | done | rfl | (simp only [List.length_drop, List.length_take]; rfl) | (go_simp; done) | (go_simp; omega)) ?_; (with_reducible refine (gram_Put.calls kj4 a0 a1 a2_0 a2_1 _ _ l2_2 t285 t288 _ ?side1 ?side2 A13.out).mono ?_); (case side1 => repeat (first | exact (Kd.C_below HR2_2.out HB.out) | (with_reducible refine Kd.C_alloc ?_ _) | (with_reducible refine Kd.C_drewN ?_ _) | (with_reducible refine Kd.C_drew ?_))); (case side2 => exact HC2_2.out); rintro e w53 ⟨v286, rfl, ho0, hb⟩; refine ⟨_, rfl, ?_⟩; have n0_ := Aside0.mk (Kd.R_lower ho0 (below_size (by repeat (first | (with_reducible first | exact HB.out | apply below_alloc | apply pw_below_drewN | apply below_drew1 | refine below_set ?_ GE283.out) | exact HB.out)))); have n1_ := Aside0.mk (blk_below (g := gb283) (o := .cells #[.int .u16 a2_0, .int .u16 a2_1, .slice A2_2 l2_2.length c2_2] 80 (0, 0)) (by (with_reducible repeat (first | refine blk_drewN ?_ _ | refine blk_drew ?_ | refine blk_alloc ?_ _)); exact BK283.out) hb); have n2_ := Aside0.mk (below_step (by repeat (first | (with_reducible first | exact HB.out | apply below_alloc | apply pw_below_drewN | apply below_drew1 | refine below_set ?_ GE283.out) | exact HB.out)) hb); clear BK283; clear HB; have HO287 := n0_; have BK283 := n1_; have HB := n2_; clear n0_ n1_ n2_; (try clear hb); (try clear hb2); (try clear hk); (try clear hi); (try clear ho0); have hcz54_0 : w53.cell? ⟨gb283, 0, none⟩ = some (.int .u16 a2_0) := (blk_cell BK283.out 0).trans rfl; have hcz54_1 : w53.cell? ⟨gb283, 1, none⟩ = some (.int .u16 a2_1) := (blk_cell BK283.out 1).trans rfl; have hcz54_2 : w53.cell? ⟨gb283, 2, none⟩ = some (.slice A2_2 l2_2.length c2_2) := (blk_cell BK283.out 2).trans rfl; have hfz54_0 := blk_frozen BK283.out 0; have hfz54_1 := blk_frozen BK283.out 1; have hfz54_2 := blk_frozen BK283.out 2) | ((with_reducible refine gate_callee (f := 60) rfl ?_); refine goesL_ (some 40) rfl rfl Try.func60 (by kernel_rfl) rfl #[.agg #[.int .u16 a2_0, .int .u16 a2_1, .slice A2_2 l2_2.length c2_2]] rfl (by (try simp only [List.map_toArray, List.map_cons, List.map_nil]); first | done | rfl | (simp only [List.length_drop, List.length_take]; rfl) | (go_simp; done) | (go_simp; omega)) ?_; (with_reducible refine (gram_Bare.calls kj4 a2_0 a2_1 _ _ l2_2 t289 t292 _ ?side1 ?side2 A14.out).mono ?_); (case side1 => repeat (first | exact (Kd.C_below HR2_2.out HB.out) | (with_reducible refine Kd.C_alloc ?_ _) | (with_reducible refine Kd.C_drewN ?_ _) | (with_reducible refine Kd.C_drew ?_))); (case side2 => exact HC2_2.out); rintro e w55 ⟨v290, rfl, ho0, hb⟩; refine ⟨_, rfl, ?_⟩; have n0_ := Aside0.mk (Kd.R_elder' (by (with_reducible repeat (first | apply Kd.R_alloc | apply Kd.R_drewN | apply Kd.R_drew)); exact HO287.out) (Kd.R_base ho0) hb); have n1_ := Aside0.mk (Kd.R_lower (Kd.R_new' ho0 (Kd.R_lt (by (with_reducible repeat (first | apply Kd.R_alloc | apply Kd.R_drewN | apply Kd.R_drew)); exact HO287.out))) (below_size (by repeat (first | (with_reducible first | exact HB.out | apply below_alloc | apply pw_below_drewN | apply below_drew1 | refine below_set ?_ GE283.out) | exact HB.out)))); have n2_ := Aside0.mk (blk_below (g := gb283) (o := .cells #[.int .u16 a2_0, .int .u16 a2_1, .slice A2_2 l2_2.length c2_2] 80 (0, 0)) (by (with_reducible repeat (first | refine blk_drewN ?_ _ | refine blk_drew ?_ | refine blk_alloc ?_ _)); exact BK283.out) hb); have n3_ := Aside0.mk (below_step (by repeat (first | (with_reducible first | exact HB.out | apply below_alloc | apply pw_below_drewN | apply below_drew1 | refine below_set ?_ GE283.out) | exact HB.out)) hb); clear HO287; clear BK283; clear HB; have HO287 := n0_; have HO291 := n1_; have BK283 := n2_; have HB := n3_; clear n0_ n1_ n2_ n3_; (try clear hb); (try clear hb2); (try clear hk); (try clear hi); (try clear ho0); have hcz56_0 : w55.cell? ⟨gb283, 0, none⟩ = some (.int .u16 a2_0) := (blk_cell BK283.out 0).trans rfl; have hcz56_1 : w55.cell? ⟨gb283, 1, none⟩ = some (.int .u16 a2_1) := (blk_cell BK283.out 1).trans rfl; have hcz56_2 : w55.cell? ⟨gb283, 2, none⟩ = some (.slice A2_2 l2_2.length c2_2) := (blk_cell BK283.out 2).trans rfl; have hfz56_0 := blk_frozen BK283.out 0; have hfz56_1 := blk_frozen BK283.out 1; have hfz56_2 := blk_frozen BK283.out 2))
     (try simp only [Act.put, List.setIfInBounds_toArray, List.set_cons_zero, List.set_cons_succ])
     go_cut [91] (fun v91 wc => ∃ (kq : Nat) (x91_50 : Bool), v91 = .bool x91_50 ∧ Aside0 (towropelaw08_GramPuts.j1 kq l3 a0 a1 t285 t289 x91_50 a2_0 a2_1 l2_2 = some r) ∧ Aside0 (kq ≤ kj4) ∧ Aside0 (Kd.R (Kd.int .u8) 5 wc w.heap.size (fun k_ => some k_ ≠ (v290 : Value).ownBlock) v286 t285) ∧ Aside0 (Kd.R (Kd.int .u8) 5 wc w.heap.size (fun k_ => some k_ ≠ (v286 : Value).ownBlock) v290 t289) ∧ Aside0 (wc.heap[gb283]? = some (.cells #[.int .u16 a2_0, .int .u16 a2_1, (.slice A2_2 l2_2.length c2_2)] 80 (0, 0))) ∧ Aside0 (Below w.heap.size w wc))
     case first =>
      have H := HC51.out
      clear HC51
      replace H := Option.bind_eq_some_iff.mp H
      obtain ⟨t296, A570, H⟩ := H
      replace H : ((towropelaw08_code.f t292).bind fun t297 => (if (wrap64 (t296 + t297)) = 0 then ((towroperef08_Check.f kj4 a0 a1 a2_0 a2_1 l2_2).bind fun t298 => ((towroperef08_Bytes.f a2_0 a2_1 l2_2 t298).bind fun t299 => (if (strOfNums t285).toList = (strOfNums t299).toList then ((towroperef08_Bytes.f a2_0 a2_1 l2_2 0).bind fun t302 => (towropelaw08_GramPuts.j1 kj4 l3 a0 a1 t285 t289 ((strOfNums t289).toList != (strOfNums t302).toList) a2_0 a2_1 l2_2)) else (towropelaw08_GramPuts.j1 kj4 l3 a0 a1 t285 t289 true a2_0 a2_1 l2_2)))) else (towropelaw08_GramPuts.j1 kj4 l3 a0 a1 t285 t289 true a2_0 a2_1 l2_2))) = some r := H
      have A57 := Aside0.mk A570
      clear A570
      replace H := Option.bind_eq_some_iff.mp H
      obtain ⟨t297, A580, H⟩ := H
      replace H : (if (wrap64 (t296 + t297)) = 0 then ((towroperef08_Check.f kj4 a0 a1 a2_0 a2_1 l2_2).bind fun t298 => ((towroperef08_Bytes.f a2_0 a2_1 l2_2 t298).bind fun t299 => (if (strOfNums t285).toList = (strOfNums t299).toList then ((towroperef08_Bytes.f a2_0 a2_1 l2_2 0).bind fun t302 => (towropelaw08_GramPuts.j1 kj4 l3 a0 a1 t285 t289 ((strOfNums t289).toList != (strOfNums t302).toList) a2_0 a2_1 l2_2)) else (towropelaw08_GramPuts.j1 kj4 l3 a0 a1 t285 t289 true a2_0 a2_1 l2_2)))) else (towropelaw08_GramPuts.j1 kj4 l3 a0 a1 t285 t289 true a2_0 a2_1 l2_2)) = some r := H
      have A58 := Aside0.mk A580
      clear A580
      by_cases c59 : (wrap64 (t296 + t297)) = 0
      ·
       rw [if_pos c59] at H
       have c59b0 : ((wrap64 (t296 + t297)) == 0) = true := beq_iff_eq.mpr c59
       have c59b1 : ((wrap64 (t296 + t297)) != 0) = false := bne_eq_false_iff_eq.mpr c59
       clear c59
       (first | rw [c59b0] | (simp only [i64_w, i32_w]; rw [c59b0]) | skip)
       replace H := Option.bind_eq_some_iff.mp H
       obtain ⟨t298, A600, H⟩ := H
       replace H : ((towroperef08_Bytes.f a2_0 a2_1 l2_2 t298).bind fun t299 => (if (strOfNums t285).toList = (strOfNums t299).toList then ((towroperef08_Bytes.f a2_0 a2_1 l2_2 0).bind fun t302 => (towropelaw08_GramPuts.j1 kj4 l3 a0 a1 t285 t289 ((strOfNums t289).toList != (strOfNums t302).toList) a2_0 a2_1 l2_2)) else (towropelaw08_GramPuts.j1 kj4 l3 a0 a1 t285 t289 true a2_0 a2_1 l2_2))) = some r := H
       have A60 := Aside0.mk A600
       clear A600
       replace H := Option.bind_eq_some_iff.mp H
       obtain ⟨t299, A610, H⟩ := H
       replace H : (if (strOfNums t285).toList = (strOfNums t299).toList then ((towroperef08_Bytes.f a2_0 a2_1 l2_2 0).bind fun t302 => (towropelaw08_GramPuts.j1 kj4 l3 a0 a1 t285 t289 ((strOfNums t289).toList != (strOfNums t302).toList) a2_0 a2_1 l2_2)) else (towropelaw08_GramPuts.j1 kj4 l3 a0 a1 t285 t289 true a2_0 a2_1 l2_2)) = some r := H
       have A61 := Aside0.mk A610
       clear A610
       by_cases c62 : (strOfNums t285).toList = (strOfNums t299).toList
       ·
        rw [if_pos c62] at H
        have c62b0 : ((strOfNums t285).toList == (strOfNums t299).toList) = true := beq_iff_eq.mpr c62
        have c62b1 : ((strOfNums t285).toList != (strOfNums t299).toList) = false := bne_eq_false_iff_eq.mpr c62
        clear c62
        replace H := Option.bind_eq_some_iff.mp H
        obtain ⟨t302, A630, H⟩ := H
        replace H : (towropelaw08_GramPuts.j1 kj4 l3 a0 a1 t285 t289 ((strOfNums t289).toList != (strOfNums t302).toList) a2_0 a2_1 l2_2) = some r := H
        have A63 := Aside0.mk A630
        clear A630
        have H' := Aside0.mk H
        clear H
        try go_wp2
        have n0_ := Aside0.mk (Kd.R_drew HO287.out)
        have n1_ := Aside0.mk (Kd.R_drew HO291.out)
        have n2_ := Aside0.mk (blk_drew BK283.out)
        have n3_ := Aside0.mk (below_drew1 HB.out)
        clear HO287
        clear HO291
        clear BK283
        clear HB
        have HO287 := n0_
        have HO291 := n1_
        have BK283 := n2_
        have HB := n3_
        clear n0_ n1_ n2_ n3_
        refine start_ (n := 26) (S := fun w' => w'.cell? ⟨gb283, 0, none⟩ = some (.int .u16 a2_0) ∧ w'.cell? ⟨gb283, 1, none⟩ = some (.int .u16 a2_1) ∧ w'.cell? ⟨gb283, 2, none⟩ = some (.slice A2_2 l2_2.length c2_2)) (ds := []) (bb 26 0) (by kernel_rfl) rfl rfl ⟨(blk_cell BK283.out 0).trans rfl, (blk_cell BK283.out 1).trans rfl, (blk_cell BK283.out 2).trans rfl⟩ (fun hHeld => ?_); refine with_tabW towropelaw08_GramPuts.tab8 towropelaw08_GramPuts.bits8 (fun HT_ HW_ => ?_)
        generalize w55.drew = w64 at HO287 HO291 BK283 HB hHeld ⊢
        refine pure_ (i := 0) (N := some 66) (v := ?_) (a' := ?_) (bb 26 1) rfl rfl (any_of HT_.out (by kernel_rfl)) (fun _ _ _ h => h) (Or.inl ⟨by rfl, ?_⟩) ?_ ?_
        rotate_left
        ·
         intro w'
         go_simp
         with_reducible rfl
        rotate_left
        ·
         simp only [Act.put, List.setIfInBounds_toArray, List.set_cons_zero, List.set_cons_succ, i64_w, i32_w]
         rfl
        refine pure_ (i := 2) (N := some 68) (v := ?_) (a' := ?_) (bb 26 5) rfl rfl (any_of HT_.out (by kernel_rfl)) (fun _ _ _ h => h) (Or.inl ⟨by rfl, ?_⟩) ?_ ?_
        rotate_left
        ·
         intro w'
         go_simp
         with_reducible rfl
        rotate_left
        ·
         simp only [Act.put, List.setIfInBounds_toArray, List.set_cons_zero, List.set_cons_succ, i64_w, i32_w]
         rfl
        refine one_ (i := 1) (N := some 67) (bb 26 7) rfl rfl (one_of HT_.out (by kernel_rfl)) (by decide) (fun K hK => ?_)
        refine goes_ Try.func49 (by kernel_rfl) rfl #[.int .i64 t288] (by rfl) rfl rfl (by (try simp only [List.map_toArray, List.map_cons, List.map_nil]); first | done | rfl | (simp only [List.length_drop, List.length_take]; rfl) | (go_simp; done) | (go_simp; omega)) ?_
        with_reducible refine (towropelaw08_code.calls t288 t296 _ A57.out).mono ?_
        rintro e w' ⟨rfl, ⟨nd, rfl⟩⟩
        refine ⟨_, rfl, ?_⟩
        refine hK.out _ _ ⟨(blk_cell BK283.out 0).trans rfl, (blk_cell BK283.out 1).trans rfl, (blk_cell BK283.out 2).trans rfl⟩ (fun hHeld => ?_)
        clear hK K
        refine norm_ (a' := ?_) ?_ ?_
        rotate_left
        ·
         show Act.put _ (some 67) _ = _
         simp only [Act.put, List.setIfInBounds_toArray, List.set_cons_zero, List.set_cons_succ, i64_w, i32_w]
         rfl
        refine one_ (i := 3) (N := some 69) (bb 26 15) rfl rfl (one_of HT_.out (by kernel_rfl)) (by decide) (fun K hK => ?_)
        refine goes_ Try.func49 (by kernel_rfl) rfl #[.int .i64 t292] (by rfl) rfl rfl (by (try simp only [List.map_toArray, List.map_cons, List.map_nil]); first | done | rfl | (simp only [List.length_drop, List.length_take]; rfl) | (go_simp; done) | (go_simp; omega)) ?_
        with_reducible refine (towropelaw08_code.calls t292 t297 _ A58.out).mono ?_
        rintro e w' ⟨rfl, ⟨nd, rfl⟩⟩
        refine ⟨_, rfl, ?_⟩
        refine hK.out _ _ ⟨(blk_cell BK283.out 0).trans rfl, (blk_cell BK283.out 1).trans rfl, (blk_cell BK283.out 2).trans rfl⟩ (fun hHeld => ?_)
        clear hK K
        refine norm_ (a' := ?_) ?_ ?_
        rotate_left
        ·
         show Act.put _ (some 69) _ = _
         simp only [Act.put, List.setIfInBounds_toArray, List.set_cons_zero, List.set_cons_succ, i64_w, i32_w]
         rfl
        refine pure_ (i := 4) (N := some 70) (v := ?_) (a' := ?_) (bb 26 31) rfl rfl (any_of HT_.out (by kernel_rfl)) (fun _ _ _ h => h) (Or.inl ⟨by rfl, ?_⟩) ?_ ?_
        rotate_left
        ·
         intro w'
         go_simp
         with_reducible rfl
        rotate_left
        ·
         simp only [Act.put, List.setIfInBounds_toArray, List.set_cons_zero, List.set_cons_succ, i64_w, i32_w]
         rfl
        refine pure_ (i := 5) (N := some 71) (v := ?_) (a' := ?_) (bb 26 63) rfl rfl (any_of HT_.out (by kernel_rfl)) (fun _ _ _ h => h) (Or.inl ⟨by rfl, ?_⟩) ?_ ?_
        rotate_left
        ·
         intro w'
         go_simp
         with_reducible rfl
        rotate_left
        ·
         simp only [Act.put, List.setIfInBounds_toArray, List.set_cons_zero, List.set_cons_succ, i64_w, i32_w]
         rfl
        refine pure_ (i := 6) (N := some 72) (v := ?_) (a' := ?_) (bb 26 127) rfl rfl (any_of HT_.out (by kernel_rfl)) (fun _ _ _ h => h) (Or.inl ⟨by rfl, ?_⟩) ?_ ?_
        rotate_left
        ·
         intro w'
         go_simp
         with_reducible rfl
        rotate_left
        ·
         simp only [Act.put, List.setIfInBounds_toArray, List.set_cons_zero, List.set_cons_succ, i64_w, i32_w]
         rfl
        refine pure_ (i := 7) (N := some 73) (v := ?_) (a' := ?_) (bb 26 255) rfl rfl (any_of HT_.out (by kernel_rfl)) (fun _ _ _ h => h) (Or.inl ⟨by rfl, ?_⟩) ?_ ?_
        rotate_left
        ·
         intro w'
         go_simp
         with_reducible rfl
        rotate_left
        ·
         simp only [Act.put, List.setIfInBounds_toArray, List.set_cons_zero, List.set_cons_succ, i64_w, i32_w]
         rfl
        refine pure_ (i := 10) (N := some 76) (v := ?_) (a' := ?_) (bb 26 1279) rfl rfl (any_of HT_.out (by kernel_rfl)) (fun _ _ _ h => h) (Or.inl ⟨by rfl, ?_⟩) ?_ ?_
        rotate_left
        ·
         intro w'
         go_simp
         with_reducible rfl
        rotate_left
        ·
         simp only [Act.put, List.setIfInBounds_toArray, List.set_cons_zero, List.set_cons_succ, i64_w, i32_w]
         rfl
        refine pure_ (i := 11) (N := some 77) (v := ?_) (a' := ?_) (bb 26 3327) rfl rfl (any_of HT_.out (by kernel_rfl)) (fun _ _ _ h => h) (Or.inl ⟨by rfl, ?_⟩) ?_ ?_
        rotate_left
        ·
         intro w'
         go_simp
         with_reducible rfl
        rotate_left
        ·
         simp only [Act.put, List.setIfInBounds_toArray, List.set_cons_zero, List.set_cons_succ, i64_w, i32_w]
         rfl
        refine take_ (i := 9) (N := some 75) (v := ?_) (a' := ?_) (bb 26 3839) rfl rfl (take_ofW HT_.out HW_.out (by kernel_rfl)) (fun _ _ _ h => h) (Or.inl ⟨by rfl, ?_⟩) hHeld ?_ ?_
        rotate_left
        ·
         rintro w' ⟨s0, s1, s2⟩
         go_simp
         with_reducible rfl
        rotate_left
        ·
         simp only [Act.put, List.setIfInBounds_toArray, List.set_cons_zero, List.set_cons_succ, i64_w, i32_w]
         rfl
        refine take_ (i := 12) (N := some 78) (v := ?_) (a' := ?_) (bb 26 7935) rfl rfl (take_ofW HT_.out HW_.out (by kernel_rfl)) (fun _ _ _ h => h) (Or.inl ⟨by rfl, ?_⟩) hHeld ?_ ?_
        rotate_left
        ·
         rintro w' ⟨s0, s1, s2⟩
         go_simp
         with_reducible rfl
        rotate_left
        ·
         simp only [Act.put, List.setIfInBounds_toArray, List.set_cons_zero, List.set_cons_succ, i64_w, i32_w]
         rfl
        refine join_ (σ := Value × Value) 2 (bb 26 16777215) (fun s_ => [(74, .string (strOfNums t285)), (79, .int .i64 t298), (80, s_.1), (81, .string (strOfNums t299)), (86, .string (strOfNums t289)), (88, s_.2), (89, .string (strOfNums t302)), (82, .bool false), (83, .bool false), (84, .bool false), (85, v290), (87, .agg #[.int .u16 a2_0, .int .u16 a2_1, .slice A2_2 l2_2.length c2_2])]) (fun s_ w' => (w'.cell? ⟨gb283, 0, none⟩ = some (.int .u16 a2_0) ∧ w'.cell? ⟨gb283, 1, none⟩ = some (.int .u16 a2_1) ∧ w'.cell? ⟨gb283, 2, none⟩ = some (.slice A2_2 l2_2.length c2_2)) ∧ (Kd.R (Kd.int .u8) 5 w' w.heap.size (fun k_ => some k_ ≠ (v290 : Value).ownBlock ∧ some k_ ≠ (s_.1 : Value).ownBlock ∧ some k_ ≠ (s_.2 : Value).ownBlock) v286 t285) ∧ (Kd.R (Kd.int .u8) 5 w' w.heap.size (fun k_ => some k_ ≠ (v286 : Value).ownBlock ∧ some k_ ≠ (s_.1 : Value).ownBlock ∧ some k_ ≠ (s_.2 : Value).ownBlock) v290 t289) ∧ (Kd.R (Kd.int .u8) 5 w' w.heap.size (fun k_ => some k_ ≠ (v286 : Value).ownBlock ∧ some k_ ≠ (v290 : Value).ownBlock ∧ some k_ ≠ (s_.2 : Value).ownBlock) s_.1 t299) ∧ (Kd.R (Kd.int .u8) 5 w' w.heap.size (fun k_ => some k_ ≠ (v286 : Value).ownBlock ∧ some k_ ≠ (v290 : Value).ownBlock ∧ some k_ ≠ (s_.1 : Value).ownBlock) s_.2 t302) ∧ (w'.heap[gb283]? = some (.cells #[.int .u16 a2_0, .int .u16 a2_1, .slice A2_2 l2_2.length c2_2] 80 (0, 0))) ∧ (Below w.heap.size w w')) ?_ ?_
        rotate_left
        ·
         intro hJ8_13_14_15_20_22_23
         refine join_ (σ := Value × Value) 3 (bb 26 8388607) (fun s_ => [(74, .string (strOfNums t285)), (79, .int .i64 t298), (80, s_.1), (81, .string (strOfNums t299)), (86, .string (strOfNums t289)), (88, s_.2), (82, .bool false), (83, .bool false), (84, .bool false), (85, v290), (87, .agg #[.int .u16 a2_0, .int .u16 a2_1, .slice A2_2 l2_2.length c2_2])]) (fun s_ w' => (w'.cell? ⟨gb283, 0, none⟩ = some (.int .u16 a2_0) ∧ w'.cell? ⟨gb283, 1, none⟩ = some (.int .u16 a2_1) ∧ w'.cell? ⟨gb283, 2, none⟩ = some (.slice A2_2 l2_2.length c2_2)) ∧ (Kd.R (Kd.int .u8) 5 w' w.heap.size (fun k_ => some k_ ≠ (v290 : Value).ownBlock ∧ some k_ ≠ (s_.1 : Value).ownBlock ∧ some k_ ≠ (s_.2 : Value).ownBlock) v286 t285) ∧ (Kd.R (Kd.int .u8) 5 w' w.heap.size (fun k_ => some k_ ≠ (v286 : Value).ownBlock ∧ some k_ ≠ (s_.1 : Value).ownBlock ∧ some k_ ≠ (s_.2 : Value).ownBlock) v290 t289) ∧ (Kd.R (Kd.int .u8) 5 w' w.heap.size (fun k_ => some k_ ≠ (v286 : Value).ownBlock ∧ some k_ ≠ (v290 : Value).ownBlock ∧ some k_ ≠ (s_.2 : Value).ownBlock) s_.1 t299) ∧ (Kd.R (Kd.int .u8) 5 w' w.heap.size (fun k_ => some k_ ≠ (v286 : Value).ownBlock ∧ some k_ ≠ (v290 : Value).ownBlock ∧ some k_ ≠ (s_.1 : Value).ownBlock) s_.2 t302) ∧ (w'.heap[gb283]? = some (.cells #[.int .u16 a2_0, .int .u16 a2_1, .slice A2_2 l2_2.length c2_2] 80 (0, 0))) ∧ (Below w.heap.size w w')) ?_ ?_
         rotate_left
         ·
          intro hJ8_13_14_15_20_22
          refine join_ (σ := Value × Value) 3 (bb 26 15728639) (fun s_ => [(74, .string (strOfNums t285)), (79, .int .i64 t298), (80, s_.1), (81, .string (strOfNums t299)), (88, s_.2), (89, .string (strOfNums t302)), (82, .bool false), (83, .bool false), (84, .bool false), (85, v290), (87, .agg #[.int .u16 a2_0, .int .u16 a2_1, .slice A2_2 l2_2.length c2_2])]) (fun s_ w' => (w'.cell? ⟨gb283, 0, none⟩ = some (.int .u16 a2_0) ∧ w'.cell? ⟨gb283, 1, none⟩ = some (.int .u16 a2_1) ∧ w'.cell? ⟨gb283, 2, none⟩ = some (.slice A2_2 l2_2.length c2_2)) ∧ (Kd.R (Kd.int .u8) 5 w' w.heap.size (fun k_ => some k_ ≠ (v290 : Value).ownBlock ∧ some k_ ≠ (s_.1 : Value).ownBlock ∧ some k_ ≠ (s_.2 : Value).ownBlock) v286 t285) ∧ (Kd.R (Kd.int .u8) 5 w' w.heap.size (fun k_ => some k_ ≠ (v286 : Value).ownBlock ∧ some k_ ≠ (s_.1 : Value).ownBlock ∧ some k_ ≠ (s_.2 : Value).ownBlock) v290 t289) ∧ (Kd.R (Kd.int .u8) 5 w' w.heap.size (fun k_ => some k_ ≠ (v286 : Value).ownBlock ∧ some k_ ≠ (v290 : Value).ownBlock ∧ some k_ ≠ (s_.2 : Value).ownBlock) s_.1 t299) ∧ (Kd.R (Kd.int .u8) 5 w' w.heap.size (fun k_ => some k_ ≠ (v286 : Value).ownBlock ∧ some k_ ≠ (v290 : Value).ownBlock ∧ some k_ ≠ (s_.1 : Value).ownBlock) s_.2 t302) ∧ (w'.heap[gb283]? = some (.cells #[.int .u16 a2_0, .int .u16 a2_1, .slice A2_2 l2_2.length c2_2] 80 (0, 0))) ∧ (Below w.heap.size w w')) ?_ ?_
          rotate_left
          ·
           intro hJ8_13_14_15_22_23
           refine join_ (σ := Value) 4 (bb 26 4194303) (fun s_ => [(74, .string (strOfNums t285)), (79, .int .i64 t298), (80, s_), (81, .string (strOfNums t299)), (86, .string (strOfNums t289)), (82, .bool false), (83, .bool false), (84, .bool false), (85, v290), (87, .agg #[.int .u16 a2_0, .int .u16 a2_1, .slice A2_2 l2_2.length c2_2])]) (fun s_ w' => (w'.cell? ⟨gb283, 0, none⟩ = some (.int .u16 a2_0) ∧ w'.cell? ⟨gb283, 1, none⟩ = some (.int .u16 a2_1) ∧ w'.cell? ⟨gb283, 2, none⟩ = some (.slice A2_2 l2_2.length c2_2)) ∧ (Kd.R (Kd.int .u8) 5 w' w.heap.size (fun k_ => some k_ ≠ (v290 : Value).ownBlock ∧ some k_ ≠ (s_ : Value).ownBlock) v286 t285) ∧ (Kd.R (Kd.int .u8) 5 w' w.heap.size (fun k_ => some k_ ≠ (v286 : Value).ownBlock ∧ some k_ ≠ (s_ : Value).ownBlock) v290 t289) ∧ (Kd.R (Kd.int .u8) 5 w' w.heap.size (fun k_ => some k_ ≠ (v286 : Value).ownBlock ∧ some k_ ≠ (v290 : Value).ownBlock) s_ t299) ∧ (w'.heap[gb283]? = some (.cells #[.int .u16 a2_0, .int .u16 a2_1, .slice A2_2 l2_2.length c2_2] 80 (0, 0))) ∧ (Below w.heap.size w w')) ?_ ?_
           rotate_left
           ·
            intro hJ8_13_14_15_20
            refine join_ (σ := Value × Value) 4 (bb 26 7340031) (fun s_ => [(74, .string (strOfNums t285)), (79, .int .i64 t298), (80, s_.1), (81, .string (strOfNums t299)), (88, s_.2), (82, .bool false), (83, .bool false), (84, .bool false), (85, v290), (87, .agg #[.int .u16 a2_0, .int .u16 a2_1, .slice A2_2 l2_2.length c2_2])]) (fun s_ w' => (w'.cell? ⟨gb283, 0, none⟩ = some (.int .u16 a2_0) ∧ w'.cell? ⟨gb283, 1, none⟩ = some (.int .u16 a2_1) ∧ w'.cell? ⟨gb283, 2, none⟩ = some (.slice A2_2 l2_2.length c2_2)) ∧ (Kd.R (Kd.int .u8) 5 w' w.heap.size (fun k_ => some k_ ≠ (v290 : Value).ownBlock ∧ some k_ ≠ (s_.1 : Value).ownBlock ∧ some k_ ≠ (s_.2 : Value).ownBlock) v286 t285) ∧ (Kd.R (Kd.int .u8) 5 w' w.heap.size (fun k_ => some k_ ≠ (v286 : Value).ownBlock ∧ some k_ ≠ (s_.1 : Value).ownBlock ∧ some k_ ≠ (s_.2 : Value).ownBlock) v290 t289) ∧ (Kd.R (Kd.int .u8) 5 w' w.heap.size (fun k_ => some k_ ≠ (v286 : Value).ownBlock ∧ some k_ ≠ (v290 : Value).ownBlock ∧ some k_ ≠ (s_.2 : Value).ownBlock) s_.1 t299) ∧ (Kd.R (Kd.int .u8) 5 w' w.heap.size (fun k_ => some k_ ≠ (v286 : Value).ownBlock ∧ some k_ ≠ (v290 : Value).ownBlock ∧ some k_ ≠ (s_.1 : Value).ownBlock) s_.2 t302) ∧ (w'.heap[gb283]? = some (.cells #[.int .u16 a2_0, .int .u16 a2_1, .slice A2_2 l2_2.length c2_2] 80 (0, 0))) ∧ (Below w.heap.size w w')) ?_ ?_
            rotate_left
            ·
             intro hJ8_13_14_15_22
             refine join_ (σ := Value) 5 (bb 26 3145727) (fun s_ => [(74, .string (strOfNums t285)), (79, .int .i64 t298), (80, s_), (81, .string (strOfNums t299)), (82, .bool false), (83, .bool false), (84, .bool false), (85, v290), (87, .agg #[.int .u16 a2_0, .int .u16 a2_1, .slice A2_2 l2_2.length c2_2])]) (fun s_ w' => (w'.cell? ⟨gb283, 0, none⟩ = some (.int .u16 a2_0) ∧ w'.cell? ⟨gb283, 1, none⟩ = some (.int .u16 a2_1) ∧ w'.cell? ⟨gb283, 2, none⟩ = some (.slice A2_2 l2_2.length c2_2)) ∧ (Kd.R (Kd.int .u8) 5 w' w.heap.size (fun k_ => some k_ ≠ (v290 : Value).ownBlock ∧ some k_ ≠ (s_ : Value).ownBlock) v286 t285) ∧ (Kd.R (Kd.int .u8) 5 w' w.heap.size (fun k_ => some k_ ≠ (v286 : Value).ownBlock ∧ some k_ ≠ (s_ : Value).ownBlock) v290 t289) ∧ (Kd.R (Kd.int .u8) 5 w' w.heap.size (fun k_ => some k_ ≠ (v286 : Value).ownBlock ∧ some k_ ≠ (v290 : Value).ownBlock) s_ t299) ∧ (w'.heap[gb283]? = some (.cells #[.int .u16 a2_0, .int .u16 a2_1, .slice A2_2 l2_2.length c2_2] 80 (0, 0))) ∧ (Below w.heap.size w w')) ?_ ?_
             rotate_left
             ·
              intro hJ8_13_14_15
              refine join_ (σ := Value) 11 (bb 26 32767) (fun s_ => [(74, .string (strOfNums t285)), (79, .int .i64 t298), (80, s_)]) (fun s_ w' => (w'.cell? ⟨gb283, 0, none⟩ = some (.int .u16 a2_0) ∧ w'.cell? ⟨gb283, 1, none⟩ = some (.int .u16 a2_1) ∧ w'.cell? ⟨gb283, 2, none⟩ = some (.slice A2_2 l2_2.length c2_2)) ∧ (Kd.R (Kd.int .u8) 5 w' w.heap.size (fun k_ => some k_ ≠ (v290 : Value).ownBlock ∧ some k_ ≠ (s_ : Value).ownBlock) v286 t285) ∧ (Kd.R (Kd.int .u8) 5 w' w.heap.size (fun k_ => some k_ ≠ (v286 : Value).ownBlock ∧ some k_ ≠ (s_ : Value).ownBlock) v290 t289) ∧ (Kd.R (Kd.int .u8) 5 w' w.heap.size (fun k_ => some k_ ≠ (v286 : Value).ownBlock ∧ some k_ ≠ (v290 : Value).ownBlock) s_ t299) ∧ (w'.heap[gb283]? = some (.cells #[.int .u16 a2_0, .int .u16 a2_1, .slice A2_2 l2_2.length c2_2] 80 (0, 0))) ∧ (Below w.heap.size w w')) ?_ ?_
              rotate_left
              ·
               intro hJ8_13_14
               refine join_ (σ := Value) 11 (bb 26 65279) (fun s_ => [(79, .int .i64 t298), (80, s_), (81, .string (strOfNums t299))]) (fun s_ w' => (w'.cell? ⟨gb283, 0, none⟩ = some (.int .u16 a2_0) ∧ w'.cell? ⟨gb283, 1, none⟩ = some (.int .u16 a2_1) ∧ w'.cell? ⟨gb283, 2, none⟩ = some (.slice A2_2 l2_2.length c2_2)) ∧ (Kd.R (Kd.int .u8) 5 w' w.heap.size (fun k_ => some k_ ≠ (v290 : Value).ownBlock ∧ some k_ ≠ (s_ : Value).ownBlock) v286 t285) ∧ (Kd.R (Kd.int .u8) 5 w' w.heap.size (fun k_ => some k_ ≠ (v286 : Value).ownBlock ∧ some k_ ≠ (s_ : Value).ownBlock) v290 t289) ∧ (Kd.R (Kd.int .u8) 5 w' w.heap.size (fun k_ => some k_ ≠ (v286 : Value).ownBlock ∧ some k_ ≠ (v290 : Value).ownBlock) s_ t299) ∧ (w'.heap[gb283]? = some (.cells #[.int .u16 a2_0, .int .u16 a2_1, .slice A2_2 l2_2.length c2_2] 80 (0, 0))) ∧ (Below w.heap.size w w')) ?_ ?_
               rotate_left
               ·
                intro hJ13_14_15
                refine join_ (σ := Unit) 12 (bb 26 16383) (fun s_ => [(74, .string (strOfNums t285)), (79, .int .i64 t298)]) (fun s_ w' => (w'.cell? ⟨gb283, 0, none⟩ = some (.int .u16 a2_0) ∧ w'.cell? ⟨gb283, 1, none⟩ = some (.int .u16 a2_1) ∧ w'.cell? ⟨gb283, 2, none⟩ = some (.slice A2_2 l2_2.length c2_2)) ∧ (Kd.R (Kd.int .u8) 5 w' w.heap.size (fun k_ => some k_ ≠ (v290 : Value).ownBlock) v286 t285) ∧ (Kd.R (Kd.int .u8) 5 w' w.heap.size (fun k_ => some k_ ≠ (v286 : Value).ownBlock) v290 t289) ∧ (w'.heap[gb283]? = some (.cells #[.int .u16 a2_0, .int .u16 a2_1, .slice A2_2 l2_2.length c2_2] 80 (0, 0))) ∧ (Below w.heap.size w w')) ?_ ?_
                rotate_left
                ·
                 intro hJ8_13
                 refine join_ (σ := Value) 12 (bb 26 32511) (fun s_ => [(79, .int .i64 t298), (80, s_)]) (fun s_ w' => (w'.cell? ⟨gb283, 0, none⟩ = some (.int .u16 a2_0) ∧ w'.cell? ⟨gb283, 1, none⟩ = some (.int .u16 a2_1) ∧ w'.cell? ⟨gb283, 2, none⟩ = some (.slice A2_2 l2_2.length c2_2)) ∧ (Kd.R (Kd.int .u8) 5 w' w.heap.size (fun k_ => some k_ ≠ (v290 : Value).ownBlock ∧ some k_ ≠ (s_ : Value).ownBlock) v286 t285) ∧ (Kd.R (Kd.int .u8) 5 w' w.heap.size (fun k_ => some k_ ≠ (v286 : Value).ownBlock ∧ some k_ ≠ (s_ : Value).ownBlock) v290 t289) ∧ (Kd.R (Kd.int .u8) 5 w' w.heap.size (fun k_ => some k_ ≠ (v286 : Value).ownBlock ∧ some k_ ≠ (v290 : Value).ownBlock) s_ t299) ∧ (w'.heap[gb283]? = some (.cells #[.int .u16 a2_0, .int .u16 a2_1, .slice A2_2 l2_2.length c2_2] 80 (0, 0))) ∧ (Below w.heap.size w w')) ?_ ?_
                 rotate_left
                 ·
                  intro hJ13_14
                  refine join_ (σ := Unit) 13 (bb 26 8191) (fun s_ => [(74, .string (strOfNums t285))]) (fun s_ w' => (w'.cell? ⟨gb283, 0, none⟩ = some (.int .u16 a2_0) ∧ w'.cell? ⟨gb283, 1, none⟩ = some (.int .u16 a2_1) ∧ w'.cell? ⟨gb283, 2, none⟩ = some (.slice A2_2 l2_2.length c2_2)) ∧ (Kd.R (Kd.int .u8) 5 w' w.heap.size (fun k_ => some k_ ≠ (v290 : Value).ownBlock) v286 t285) ∧ (Kd.R (Kd.int .u8) 5 w' w.heap.size (fun k_ => some k_ ≠ (v286 : Value).ownBlock) v290 t289) ∧ (w'.heap[gb283]? = some (.cells #[.int .u16 a2_0, .int .u16 a2_1, .slice A2_2 l2_2.length c2_2] 80 (0, 0))) ∧ (Below w.heap.size w w')) ?_ ?_
                  rotate_left
                  ·
                   intro hJ8
                   refine join_ (σ := Unit) 13 (bb 26 16127) (fun s_ => [(79, .int .i64 t298)]) (fun s_ w' => (w'.cell? ⟨gb283, 0, none⟩ = some (.int .u16 a2_0) ∧ w'.cell? ⟨gb283, 1, none⟩ = some (.int .u16 a2_1) ∧ w'.cell? ⟨gb283, 2, none⟩ = some (.slice A2_2 l2_2.length c2_2)) ∧ (Kd.R (Kd.int .u8) 5 w' w.heap.size (fun k_ => some k_ ≠ (v290 : Value).ownBlock) v286 t285) ∧ (Kd.R (Kd.int .u8) 5 w' w.heap.size (fun k_ => some k_ ≠ (v286 : Value).ownBlock) v290 t289) ∧ (w'.heap[gb283]? = some (.cells #[.int .u16 a2_0, .int .u16 a2_1, .slice A2_2 l2_2.length c2_2] 80 (0, 0))) ∧ (Below w.heap.size w w')) ?_ ?_
                   rotate_left
                   ·
                    intro hJ13
                    refine two_ (i := 8) (j := 13) (Ni := some 74) (Nj := some 79) (bb 26 8191) (bb 26 16127) rfl rfl rfl rfl (two_of HT_.out (by kernel_rfl)) (by decide) (by decide) (fun K hK => ?_) (fun K hK => ?_)
                    ·
                     skip
                     have hcv65 := And.intro (own_string (P := Try.prog) Try.underlying23 Try.underlying5 Try.underlying9 (Kd.own_of_R HO287.out)) (fun n_ : Nat => own_string (P := Try.prog) Try.underlying23 Try.underlying5 Try.underlying9 (Kd.own_of_R (Kd.R_drewN HO287.out n_)))
                     refine value_ (w1 := ?_) (v := ?_) (by rfl) rfl ?_ ?_
                     rotate_left 2
                     ·
                      go_simp
                      constructor
                      ·
                       rfl
                      ·
                       rfl
                     clear hcv65
                     refine hK.out _ _ ⟨(blk_cell BK283.out 0).trans rfl, (blk_cell BK283.out 1).trans rfl, (blk_cell BK283.out 2).trans rfl⟩ (fun hHeld => ?_)
                     clear hK K
                     refine norm_ (a' := ?_) ?_ ?_
                     rotate_left
                     ·
                      show Act.put _ (some 74) _ = _
                      simp only [Act.put, List.setIfInBounds_toArray, List.set_cons_zero, List.set_cons_succ, i64_w, i32_w]
                      rfl
                     exact norm_ (by first | (simp only [putAll, Act.put, List.setIfInBounds_toArray, List.set_cons_zero, List.set_cons_succ]; done) | (simp only [putAll, Act.put, List.setIfInBounds_toArray, List.set_cons_zero, List.set_cons_succ]; rfl)) (hJ8 () _ ⟨hHeld, (by (with_reducible repeat (first | apply Kd.R_alloc | apply Kd.R_drewN | apply Kd.R_drew)); exact Kd.R_mono HO287.out (fun _ hk => hk.2)), (by (with_reducible repeat (first | apply Kd.R_alloc | apply Kd.R_drewN | apply Kd.R_drew)); exact Kd.R_mono HO291.out (fun _ hk => hk.2)), (by (with_reducible repeat (first | refine blk_drewN ?_ _ | refine blk_drew ?_ | refine blk_alloc ?_ _)); exact BK283.out), (by repeat (first | (with_reducible first | exact HB.out | apply below_alloc | apply pw_below_drewN | apply below_drew1 | refine below_set ?_ GE283.out) | exact HB.out))⟩)
                    ·
                     skip
                     refine goes_ Try.func62 (by kernel_rfl) rfl #[.int .u32 a0, .int .u32 a1, .agg #[.int .u16 a2_0, .int .u16 a2_1, .slice A2_2 l2_2.length c2_2]] (by rfl) rfl rfl (by (try simp only [List.map_toArray, List.map_cons, List.map_nil]); first | done | rfl | (simp only [List.length_drop, List.length_take]; rfl) | (go_simp; done) | (go_simp; omega)) ?_
                     with_reducible refine (towroperef08_Check.calls kj4 a0 a1 a2_0 a2_1 _ _ l2_2 t298 _ ?side1 ?side2 A60.out).mono ?_
                     (case side1 => repeat (first | exact (Kd.C_below HR2_2.out (by repeat (first | (with_reducible first | exact HB.out | apply below_alloc | apply pw_below_drewN | apply below_drew1 | refine below_set ?_ GE283.out) | exact HB.out))) | (with_reducible refine Kd.C_alloc ?_ _) | (with_reducible refine Kd.C_drewN ?_ _) | (with_reducible refine Kd.C_drew ?_)))
                     (case side2 => exact HC2_2.out)
                     rintro e w65 ⟨rfl, hb⟩
                     refine ⟨_, rfl, ?_⟩
                     have n0_ := Aside0.mk (Kd.R_below (by (with_reducible repeat (first | apply Kd.R_alloc | apply Kd.R_drewN | apply Kd.R_drew)); exact HO287.out) hb)
                     have n1_ := Aside0.mk (Kd.R_below (by (with_reducible repeat (first | apply Kd.R_alloc | apply Kd.R_drewN | apply Kd.R_drew)); exact HO291.out) hb)
                     have n2_ := Aside0.mk (blk_below (g := gb283) (o := .cells #[.int .u16 a2_0, .int .u16 a2_1, .slice A2_2 l2_2.length c2_2] 80 (0, 0)) (by (with_reducible repeat (first | refine blk_drewN ?_ _ | refine blk_drew ?_ | refine blk_alloc ?_ _)); exact BK283.out) hb)
                     have n3_ := Aside0.mk (below_step (by repeat (first | (with_reducible first | exact HB.out | apply below_alloc | apply pw_below_drewN | apply below_drew1 | refine below_set ?_ GE283.out) | exact HB.out)) hb)
                     clear HO287
                     clear HO291
                     clear BK283
                     clear HB
                     have HO287 := n0_
                     have HO291 := n1_
                     have BK283 := n2_
                     have HB := n3_
                     clear n0_ n1_ n2_ n3_
                     (try clear hb)
                     (try clear hb2)
                     (try clear hk)
                     (try clear hi)
                     refine hK.out _ _ ⟨(blk_cell BK283.out 0).trans rfl, (blk_cell BK283.out 1).trans rfl, (blk_cell BK283.out 2).trans rfl⟩ (fun hHeld => ?_)
                     clear hK K
                     refine norm_ (a' := ?_) ?_ ?_
                     rotate_left
                     ·
                      show Act.put _ (some 79) _ = _
                      simp only [Act.put, List.setIfInBounds_toArray, List.set_cons_zero, List.set_cons_succ, i64_w, i32_w]
                      rfl
                     exact norm_ (by first | (simp only [putAll, Act.put, List.setIfInBounds_toArray, List.set_cons_zero, List.set_cons_succ]; done) | (simp only [putAll, Act.put, List.setIfInBounds_toArray, List.set_cons_zero, List.set_cons_succ]; rfl)) (hJ13 () _ ⟨hHeld, (by (with_reducible repeat (first | apply Kd.R_alloc | apply Kd.R_drewN | apply Kd.R_drew)); exact Kd.R_mono HO287.out (fun _ hk => hk.2)), (by (with_reducible repeat (first | apply Kd.R_alloc | apply Kd.R_drewN | apply Kd.R_drew)); exact Kd.R_mono HO291.out (fun _ hk => hk.2)), (by (with_reducible repeat (first | refine blk_drewN ?_ _ | refine blk_drew ?_ | refine blk_alloc ?_ _)); exact BK283.out), (by repeat (first | (with_reducible first | exact HB.out | apply below_alloc | apply pw_below_drewN | apply below_drew1 | refine below_set ?_ GE283.out) | exact HB.out))⟩)
                   ·
                    skip
                    rintro _ w66 ⟨hS_, h0_, h1_, h2_, h3_⟩
                    have n0_ : Aside0 (Kd.R (Kd.int .u8) 5 w66 w.heap.size (fun k_ => some k_ ≠ (v290 : Value).ownBlock) v286 t285) := ⟨h0_⟩
                    have n1_ : Aside0 (Kd.R (Kd.int .u8) 5 w66 w.heap.size (fun k_ => some k_ ≠ (v286 : Value).ownBlock) v290 t289) := ⟨h1_⟩
                    have n2_ : Aside0 (w66.heap[gb283]? = some (.cells #[.int .u16 a2_0, .int .u16 a2_1, .slice A2_2 l2_2.length c2_2] 80 (0, 0))) := ⟨h2_⟩
                    have n3_ : Aside0 (Below w.heap.size w w66) := ⟨h3_⟩
                    clear HO287
                    clear HO291
                    clear BK283
                    clear HB
                    clear h0_ h1_ h2_ h3_
                    have HO287 := n0_
                    have HO291 := n1_
                    have BK283 := n2_
                    have HB := n3_
                    clear n0_ n1_ n2_ n3_
                    have hHeld : w66.cell? ⟨gb283, 0, none⟩ = some (.int .u16 a2_0) ∧ w66.cell? ⟨gb283, 1, none⟩ = some (.int .u16 a2_1) ∧ w66.cell? ⟨gb283, 2, none⟩ = some (.slice A2_2 l2_2.length c2_2) := hS_
                    refine norm_ (a' := ?_) ?_ ?_
                    rotate_left
                    ·
                     simp only [putAll, Act.put, List.setIfInBounds_toArray, List.set_cons_zero, List.set_cons_succ]
                     rfl
                    refine two_ (i := 8) (j := 14) (Ni := some 74) (Nj := some 80) (bb 26 16383) (bb 26 32511) rfl rfl rfl rfl (two_of HT_.out (by kernel_rfl)) (by decide) (by decide) (fun K hK => ?_) (fun K hK => ?_)
                    ·
                     skip
                     have hcv67 := And.intro (own_string (P := Try.prog) Try.underlying23 Try.underlying5 Try.underlying9 (Kd.own_of_R HO287.out)) (fun n_ : Nat => own_string (P := Try.prog) Try.underlying23 Try.underlying5 Try.underlying9 (Kd.own_of_R (Kd.R_drewN HO287.out n_)))
                     refine value_ (w1 := ?_) (v := ?_) (by rfl) rfl ?_ ?_
                     rotate_left 2
                     ·
                      go_simp
                      constructor
                      ·
                       rfl
                      ·
                       rfl
                     clear hcv67
                     refine hK.out _ _ ⟨(blk_cell BK283.out 0).trans rfl, (blk_cell BK283.out 1).trans rfl, (blk_cell BK283.out 2).trans rfl⟩ (fun hHeld => ?_)
                     clear hK K
                     refine norm_ (a' := ?_) ?_ ?_
                     rotate_left
                     ·
                      show Act.put _ (some 74) _ = _
                      simp only [Act.put, List.setIfInBounds_toArray, List.set_cons_zero, List.set_cons_succ, i64_w, i32_w]
                      rfl
                     exact norm_ (by first | (simp only [putAll, Act.put, List.setIfInBounds_toArray, List.set_cons_zero, List.set_cons_succ]; done) | (simp only [putAll, Act.put, List.setIfInBounds_toArray, List.set_cons_zero, List.set_cons_succ]; rfl)) (hJ8_13 () _ ⟨hHeld, (by (with_reducible repeat (first | apply Kd.R_alloc | apply Kd.R_drewN | apply Kd.R_drew)); exact HO287.out), (by (with_reducible repeat (first | apply Kd.R_alloc | apply Kd.R_drewN | apply Kd.R_drew)); exact HO291.out), (by (with_reducible repeat (first | refine blk_drewN ?_ _ | refine blk_drew ?_ | refine blk_alloc ?_ _)); exact BK283.out), (by repeat (first | (with_reducible first | exact HB.out | apply below_alloc | apply pw_below_drewN | apply below_drew1 | refine below_set ?_ GE283.out) | exact HB.out))⟩)
                    ·
                     skip
                     refine goes_ Try.func61 (by kernel_rfl) rfl #[.agg #[.int .u16 a2_0, .int .u16 a2_1, .slice A2_2 l2_2.length c2_2], .int .i64 t298] (by rfl) rfl rfl (by (try simp only [List.map_toArray, List.map_cons, List.map_nil]); first | done | rfl | (simp only [List.length_drop, List.length_take]; rfl) | (go_simp; done) | (go_simp; omega)) ?_
                     with_reducible refine (towroperef08_Bytes.calls a2_0 a2_1 _ _ l2_2 t298 t299 _ ?side1 ?side2 A61.out).mono ?_
                     (case side1 => repeat (first | exact (Kd.C_below HR2_2.out HB.out) | (with_reducible refine Kd.C_alloc ?_ _) | (with_reducible refine Kd.C_drewN ?_ _) | (with_reducible refine Kd.C_drew ?_)))
                     (case side2 => exact HC2_2.out)
                     rintro e w67 ⟨v300, rfl, ho0, hb⟩
                     refine ⟨_, rfl, ?_⟩
                     have n0_ := Aside0.mk (Kd.R_elder' (by (with_reducible repeat (first | apply Kd.R_alloc | apply Kd.R_drewN | apply Kd.R_drew)); exact HO287.out) (Kd.R_base ho0) hb)
                     have n1_ := Aside0.mk (Kd.R_elder' (by (with_reducible repeat (first | apply Kd.R_alloc | apply Kd.R_drewN | apply Kd.R_drew)); exact HO291.out) (Kd.R_base ho0) hb)
                     have n2_ := Aside0.mk (Kd.R_lower (Kd.R_new' (Kd.R_new' ho0 (Kd.R_lt (by (with_reducible repeat (first | apply Kd.R_alloc | apply Kd.R_drewN | apply Kd.R_drew)); exact HO287.out))) (Kd.R_lt (by (with_reducible repeat (first | apply Kd.R_alloc | apply Kd.R_drewN | apply Kd.R_drew)); exact HO291.out))) (below_size (by repeat (first | (with_reducible first | exact HB.out | apply below_alloc | apply pw_below_drewN | apply below_drew1 | refine below_set ?_ GE283.out) | exact HB.out))))
                     have n3_ := Aside0.mk (blk_below (g := gb283) (o := .cells #[.int .u16 a2_0, .int .u16 a2_1, .slice A2_2 l2_2.length c2_2] 80 (0, 0)) (by (with_reducible repeat (first | refine blk_drewN ?_ _ | refine blk_drew ?_ | refine blk_alloc ?_ _)); exact BK283.out) hb)
                     have n4_ := Aside0.mk (below_step (by repeat (first | (with_reducible first | exact HB.out | apply below_alloc | apply pw_below_drewN | apply below_drew1 | refine below_set ?_ GE283.out) | exact HB.out)) hb)
                     clear HO287
                     clear HO291
                     clear BK283
                     clear HB
                     have HO287 := n0_
                     have HO291 := n1_
                     have HO301 := n2_
                     have BK283 := n3_
                     have HB := n4_
                     clear n0_ n1_ n2_ n3_ n4_
                     (try clear hb)
                     (try clear hb2)
                     (try clear hk)
                     (try clear hi)
                     (try clear ho0)
                     refine hK.out _ _ ⟨(blk_cell BK283.out 0).trans rfl, (blk_cell BK283.out 1).trans rfl, (blk_cell BK283.out 2).trans rfl⟩ (fun hHeld => ?_)
                     clear hK K
                     refine norm_ (a' := ?_) ?_ ?_
                     rotate_left
                     ·
                      show Act.put _ (some 80) _ = _
                      simp only [Act.put, List.setIfInBounds_toArray, List.set_cons_zero, List.set_cons_succ, i64_w, i32_w]
                      rfl
                     exact norm_ (by first | (simp only [putAll, Act.put, List.setIfInBounds_toArray, List.set_cons_zero, List.set_cons_succ]; done) | (simp only [putAll, Act.put, List.setIfInBounds_toArray, List.set_cons_zero, List.set_cons_succ]; rfl)) (hJ13_14 (v300) _ ⟨hHeld, (by (with_reducible repeat (first | apply Kd.R_alloc | apply Kd.R_drewN | apply Kd.R_drew)); exact HO287.out), (by (with_reducible repeat (first | apply Kd.R_alloc | apply Kd.R_drewN | apply Kd.R_drew)); exact HO291.out), (by (with_reducible repeat (first | apply Kd.R_alloc | apply Kd.R_drewN | apply Kd.R_drew)); exact Kd.R_mono HO301.out (fun _ hk => ⟨hk.1.2, hk.2⟩)), (by (with_reducible repeat (first | refine blk_drewN ?_ _ | refine blk_drew ?_ | refine blk_alloc ?_ _)); exact BK283.out), (by repeat (first | (with_reducible first | exact HB.out | apply below_alloc | apply pw_below_drewN | apply below_drew1 | refine below_set ?_ GE283.out) | exact HB.out))⟩)
                  ·
                   skip
                   rintro _ w66 ⟨hS_, h0_, h1_, h2_, h3_⟩
                   have n0_ : Aside0 (Kd.R (Kd.int .u8) 5 w66 w.heap.size (fun k_ => some k_ ≠ (v290 : Value).ownBlock) v286 t285) := ⟨h0_⟩
                   have n1_ : Aside0 (Kd.R (Kd.int .u8) 5 w66 w.heap.size (fun k_ => some k_ ≠ (v286 : Value).ownBlock) v290 t289) := ⟨h1_⟩
                   have n2_ : Aside0 (w66.heap[gb283]? = some (.cells #[.int .u16 a2_0, .int .u16 a2_1, .slice A2_2 l2_2.length c2_2] 80 (0, 0))) := ⟨h2_⟩
                   have n3_ : Aside0 (Below w.heap.size w w66) := ⟨h3_⟩
                   clear HO287
                   clear HO291
                   clear BK283
                   clear HB
                   clear h0_ h1_ h2_ h3_
                   have HO287 := n0_
                   have HO291 := n1_
                   have BK283 := n2_
                   have HB := n3_
                   clear n0_ n1_ n2_ n3_
                   have hHeld : w66.cell? ⟨gb283, 0, none⟩ = some (.int .u16 a2_0) ∧ w66.cell? ⟨gb283, 1, none⟩ = some (.int .u16 a2_1) ∧ w66.cell? ⟨gb283, 2, none⟩ = some (.slice A2_2 l2_2.length c2_2) := hS_
                   refine norm_ (a' := ?_) ?_ ?_
                   rotate_left
                   ·
                    simp only [putAll, Act.put, List.setIfInBounds_toArray, List.set_cons_zero, List.set_cons_succ]
                    rfl
                   refine one_ (i := 13) (N := some 79) (bb 26 16383) rfl rfl (one_of HT_.out (by kernel_rfl)) (by decide) (fun K hK => ?_)
                   refine goes_ Try.func62 (by kernel_rfl) rfl #[.int .u32 a0, .int .u32 a1, .agg #[.int .u16 a2_0, .int .u16 a2_1, .slice A2_2 l2_2.length c2_2]] (by rfl) rfl rfl (by (try simp only [List.map_toArray, List.map_cons, List.map_nil]); first | done | rfl | (simp only [List.length_drop, List.length_take]; rfl) | (go_simp; done) | (go_simp; omega)) ?_
                   with_reducible refine (towroperef08_Check.calls kj4 a0 a1 a2_0 a2_1 _ _ l2_2 t298 _ ?side1 ?side2 A60.out).mono ?_
                   (case side1 => repeat (first | exact (Kd.C_below HR2_2.out HB.out) | (with_reducible refine Kd.C_alloc ?_ _) | (with_reducible refine Kd.C_drewN ?_ _) | (with_reducible refine Kd.C_drew ?_)))
                   (case side2 => exact HC2_2.out)
                   rintro e w67 ⟨rfl, hb⟩
                   refine ⟨_, rfl, ?_⟩
                   have n0_ := Aside0.mk (Kd.R_below (by (with_reducible repeat (first | apply Kd.R_alloc | apply Kd.R_drewN | apply Kd.R_drew)); exact HO287.out) hb)
                   have n1_ := Aside0.mk (Kd.R_below (by (with_reducible repeat (first | apply Kd.R_alloc | apply Kd.R_drewN | apply Kd.R_drew)); exact HO291.out) hb)
                   have n2_ := Aside0.mk (blk_below (g := gb283) (o := .cells #[.int .u16 a2_0, .int .u16 a2_1, .slice A2_2 l2_2.length c2_2] 80 (0, 0)) (by (with_reducible repeat (first | refine blk_drewN ?_ _ | refine blk_drew ?_ | refine blk_alloc ?_ _)); exact BK283.out) hb)
                   have n3_ := Aside0.mk (below_step (by repeat (first | (with_reducible first | exact HB.out | apply below_alloc | apply pw_below_drewN | apply below_drew1 | refine below_set ?_ GE283.out) | exact HB.out)) hb)
                   clear HO287
                   clear HO291
                   clear BK283
                   clear HB
                   have HO287 := n0_
                   have HO291 := n1_
                   have BK283 := n2_
                   have HB := n3_
                   clear n0_ n1_ n2_ n3_
                   (try clear hb)
                   (try clear hb2)
                   (try clear hk)
                   (try clear hi)
                   refine hK.out _ _ ⟨(blk_cell BK283.out 0).trans rfl, (blk_cell BK283.out 1).trans rfl, (blk_cell BK283.out 2).trans rfl⟩ (fun hHeld => ?_)
                   clear hK K
                   refine norm_ (a' := ?_) ?_ ?_
                   rotate_left
                   ·
                    show Act.put _ (some 79) _ = _
                    simp only [Act.put, List.setIfInBounds_toArray, List.set_cons_zero, List.set_cons_succ, i64_w, i32_w]
                    rfl
                   exact norm_ (by first | (simp only [putAll, Act.put, List.setIfInBounds_toArray, List.set_cons_zero, List.set_cons_succ]; done) | (simp only [putAll, Act.put, List.setIfInBounds_toArray, List.set_cons_zero, List.set_cons_succ]; rfl)) (hJ8_13 () _ ⟨hHeld, (by (with_reducible repeat (first | apply Kd.R_alloc | apply Kd.R_drewN | apply Kd.R_drew)); exact HO287.out), (by (with_reducible repeat (first | apply Kd.R_alloc | apply Kd.R_drewN | apply Kd.R_drew)); exact HO291.out), (by (with_reducible repeat (first | refine blk_drewN ?_ _ | refine blk_drew ?_ | refine blk_alloc ?_ _)); exact BK283.out), (by repeat (first | (with_reducible first | exact HB.out | apply below_alloc | apply pw_below_drewN | apply below_drew1 | refine below_set ?_ GE283.out) | exact HB.out))⟩)
                 ·
                  skip
                  rintro v300 w67 ⟨hS_, h0_, h1_, h2_, h3_, h4_⟩
                  have n0_ : Aside0 (Kd.R (Kd.int .u8) 5 w67 w.heap.size (fun k_ => some k_ ≠ (v290 : Value).ownBlock ∧ some k_ ≠ (v300 : Value).ownBlock) v286 t285) := ⟨h0_⟩
                  have n1_ : Aside0 (Kd.R (Kd.int .u8) 5 w67 w.heap.size (fun k_ => some k_ ≠ (v286 : Value).ownBlock ∧ some k_ ≠ (v300 : Value).ownBlock) v290 t289) := ⟨h1_⟩
                  have n2_ : Aside0 (Kd.R (Kd.int .u8) 5 w67 w.heap.size (fun k_ => some k_ ≠ (v286 : Value).ownBlock ∧ some k_ ≠ (v290 : Value).ownBlock) v300 t299) := ⟨h2_⟩
                  have n3_ : Aside0 (w67.heap[gb283]? = some (.cells #[.int .u16 a2_0, .int .u16 a2_1, .slice A2_2 l2_2.length c2_2] 80 (0, 0))) := ⟨h3_⟩
                  have n4_ : Aside0 (Below w.heap.size w w67) := ⟨h4_⟩
                  clear HO287
                  clear HO291
                  clear BK283
                  clear HB
                  clear h0_ h1_ h2_ h3_ h4_
                  have HO287 := n0_
                  have HO291 := n1_
                  have HO301 := n2_
                  have BK283 := n3_
                  have HB := n4_
                  clear n0_ n1_ n2_ n3_ n4_
                  have hHeld : w67.cell? ⟨gb283, 0, none⟩ = some (.int .u16 a2_0) ∧ w67.cell? ⟨gb283, 1, none⟩ = some (.int .u16 a2_1) ∧ w67.cell? ⟨gb283, 2, none⟩ = some (.slice A2_2 l2_2.length c2_2) := hS_
                  refine norm_ (a' := ?_) ?_ ?_
                  rotate_left
                  ·
                   simp only [putAll, Act.put, List.setIfInBounds_toArray, List.set_cons_zero, List.set_cons_succ]
                   rfl
                  refine two_ (i := 8) (j := 15) (Ni := some 74) (Nj := some 81) (bb 26 32767) (bb 26 65279) rfl rfl rfl rfl (two_of HT_.out (by kernel_rfl)) (by decide) (by decide) (fun K hK => ?_) (fun K hK => ?_)
                  ·
                   skip
                   have hcv68 := And.intro (own_string (P := Try.prog) Try.underlying23 Try.underlying5 Try.underlying9 (Kd.own_of_R HO287.out)) (fun n_ : Nat => own_string (P := Try.prog) Try.underlying23 Try.underlying5 Try.underlying9 (Kd.own_of_R (Kd.R_drewN HO287.out n_)))
                   refine value_ (w1 := ?_) (v := ?_) (by rfl) rfl ?_ ?_
                   rotate_left 2
                   ·
                    go_simp
                    constructor
                    ·
                     rfl
                    ·
                     rfl
                   clear hcv68
                   refine hK.out _ _ ⟨(blk_cell BK283.out 0).trans rfl, (blk_cell BK283.out 1).trans rfl, (blk_cell BK283.out 2).trans rfl⟩ (fun hHeld => ?_)
                   clear hK K
                   refine norm_ (a' := ?_) ?_ ?_
                   rotate_left
                   ·
                    show Act.put _ (some 74) _ = _
                    simp only [Act.put, List.setIfInBounds_toArray, List.set_cons_zero, List.set_cons_succ, i64_w, i32_w]
                    rfl
                   exact norm_ (by first | (simp only [putAll, Act.put, List.setIfInBounds_toArray, List.set_cons_zero, List.set_cons_succ]; done) | (simp only [putAll, Act.put, List.setIfInBounds_toArray, List.set_cons_zero, List.set_cons_succ]; rfl)) (hJ8_13_14 (v300) _ ⟨hHeld, (by (with_reducible repeat (first | apply Kd.R_alloc | apply Kd.R_drewN | apply Kd.R_drew)); exact HO287.out), (by (with_reducible repeat (first | apply Kd.R_alloc | apply Kd.R_drewN | apply Kd.R_drew)); exact HO291.out), (by (with_reducible repeat (first | apply Kd.R_alloc | apply Kd.R_drewN | apply Kd.R_drew)); exact HO301.out), (by (with_reducible repeat (first | refine blk_drewN ?_ _ | refine blk_drew ?_ | refine blk_alloc ?_ _)); exact BK283.out), (by repeat (first | (with_reducible first | exact HB.out | apply below_alloc | apply pw_below_drewN | apply below_drew1 | refine below_set ?_ GE283.out) | exact HB.out))⟩)
                  ·
                   skip
                   have hcv68 := And.intro (own_string (P := Try.prog) Try.underlying23 Try.underlying5 Try.underlying9 (Kd.own_of_R HO301.out)) (fun n_ : Nat => own_string (P := Try.prog) Try.underlying23 Try.underlying5 Try.underlying9 (Kd.own_of_R (Kd.R_drewN HO301.out n_)))
                   refine value_ (w1 := ?_) (v := ?_) (by rfl) rfl ?_ ?_
                   rotate_left 2
                   ·
                    go_simp
                    constructor
                    ·
                     rfl
                    ·
                     rfl
                   clear hcv68
                   refine hK.out _ _ ⟨(blk_cell BK283.out 0).trans rfl, (blk_cell BK283.out 1).trans rfl, (blk_cell BK283.out 2).trans rfl⟩ (fun hHeld => ?_)
                   clear hK K
                   refine norm_ (a' := ?_) ?_ ?_
                   rotate_left
                   ·
                    show Act.put _ (some 81) _ = _
                    simp only [Act.put, List.setIfInBounds_toArray, List.set_cons_zero, List.set_cons_succ, i64_w, i32_w]
                    rfl
                   exact norm_ (by first | (simp only [putAll, Act.put, List.setIfInBounds_toArray, List.set_cons_zero, List.set_cons_succ]; done) | (simp only [putAll, Act.put, List.setIfInBounds_toArray, List.set_cons_zero, List.set_cons_succ]; rfl)) (hJ13_14_15 (v300) _ ⟨hHeld, (by (with_reducible repeat (first | apply Kd.R_alloc | apply Kd.R_drewN | apply Kd.R_drew)); exact HO287.out), (by (with_reducible repeat (first | apply Kd.R_alloc | apply Kd.R_drewN | apply Kd.R_drew)); exact HO291.out), (by (with_reducible repeat (first | apply Kd.R_alloc | apply Kd.R_drewN | apply Kd.R_drew)); exact HO301.out), (by (with_reducible repeat (first | refine blk_drewN ?_ _ | refine blk_drew ?_ | refine blk_alloc ?_ _)); exact BK283.out), (by repeat (first | (with_reducible first | exact HB.out | apply below_alloc | apply pw_below_drewN | apply below_drew1 | refine below_set ?_ GE283.out) | exact HB.out))⟩)
                ·
                 skip
                 rintro _ w67 ⟨hS_, h0_, h1_, h2_, h3_⟩
                 have n0_ : Aside0 (Kd.R (Kd.int .u8) 5 w67 w.heap.size (fun k_ => some k_ ≠ (v290 : Value).ownBlock) v286 t285) := ⟨h0_⟩
                 have n1_ : Aside0 (Kd.R (Kd.int .u8) 5 w67 w.heap.size (fun k_ => some k_ ≠ (v286 : Value).ownBlock) v290 t289) := ⟨h1_⟩
                 have n2_ : Aside0 (w67.heap[gb283]? = some (.cells #[.int .u16 a2_0, .int .u16 a2_1, .slice A2_2 l2_2.length c2_2] 80 (0, 0))) := ⟨h2_⟩
                 have n3_ : Aside0 (Below w.heap.size w w67) := ⟨h3_⟩
                 clear HO287
                 clear HO291
                 clear BK283
                 clear HB
                 clear h0_ h1_ h2_ h3_
                 have HO287 := n0_
                 have HO291 := n1_
                 have BK283 := n2_
                 have HB := n3_
                 clear n0_ n1_ n2_ n3_
                 have hHeld : w67.cell? ⟨gb283, 0, none⟩ = some (.int .u16 a2_0) ∧ w67.cell? ⟨gb283, 1, none⟩ = some (.int .u16 a2_1) ∧ w67.cell? ⟨gb283, 2, none⟩ = some (.slice A2_2 l2_2.length c2_2) := hS_
                 refine norm_ (a' := ?_) ?_ ?_
                 rotate_left
                 ·
                  simp only [putAll, Act.put, List.setIfInBounds_toArray, List.set_cons_zero, List.set_cons_succ]
                  rfl
                 refine one_ (i := 14) (N := some 80) (bb 26 32767) rfl rfl (one_of HT_.out (by kernel_rfl)) (by decide) (fun K hK => ?_)
                 refine goes_ Try.func61 (by kernel_rfl) rfl #[.agg #[.int .u16 a2_0, .int .u16 a2_1, .slice A2_2 l2_2.length c2_2], .int .i64 t298] (by rfl) rfl rfl (by (try simp only [List.map_toArray, List.map_cons, List.map_nil]); first | done | rfl | (simp only [List.length_drop, List.length_take]; rfl) | (go_simp; done) | (go_simp; omega)) ?_
                 with_reducible refine (towroperef08_Bytes.calls a2_0 a2_1 _ _ l2_2 t298 t299 _ ?side1 ?side2 A61.out).mono ?_
                 (case side1 => repeat (first | exact (Kd.C_below HR2_2.out HB.out) | (with_reducible refine Kd.C_alloc ?_ _) | (with_reducible refine Kd.C_drewN ?_ _) | (with_reducible refine Kd.C_drew ?_)))
                 (case side2 => exact HC2_2.out)
                 rintro e w68 ⟨v300, rfl, ho0, hb⟩
                 refine ⟨_, rfl, ?_⟩
                 have n0_ := Aside0.mk (Kd.R_elder' (by (with_reducible repeat (first | apply Kd.R_alloc | apply Kd.R_drewN | apply Kd.R_drew)); exact HO287.out) (Kd.R_base ho0) hb)
                 have n1_ := Aside0.mk (Kd.R_elder' (by (with_reducible repeat (first | apply Kd.R_alloc | apply Kd.R_drewN | apply Kd.R_drew)); exact HO291.out) (Kd.R_base ho0) hb)
                 have n2_ := Aside0.mk (Kd.R_lower (Kd.R_new' (Kd.R_new' ho0 (Kd.R_lt (by (with_reducible repeat (first | apply Kd.R_alloc | apply Kd.R_drewN | apply Kd.R_drew)); exact HO287.out))) (Kd.R_lt (by (with_reducible repeat (first | apply Kd.R_alloc | apply Kd.R_drewN | apply Kd.R_drew)); exact HO291.out))) (below_size (by repeat (first | (with_reducible first | exact HB.out | apply below_alloc | apply pw_below_drewN | apply below_drew1 | refine below_set ?_ GE283.out) | exact HB.out))))
                 have n3_ := Aside0.mk (blk_below (g := gb283) (o := .cells #[.int .u16 a2_0, .int .u16 a2_1, .slice A2_2 l2_2.length c2_2] 80 (0, 0)) (by (with_reducible repeat (first | refine blk_drewN ?_ _ | refine blk_drew ?_ | refine blk_alloc ?_ _)); exact BK283.out) hb)
                 have n4_ := Aside0.mk (below_step (by repeat (first | (with_reducible first | exact HB.out | apply below_alloc | apply pw_below_drewN | apply below_drew1 | refine below_set ?_ GE283.out) | exact HB.out)) hb)
                 clear HO287
                 clear HO291
                 clear BK283
                 clear HB
                 have HO287 := n0_
                 have HO291 := n1_
                 have HO301 := n2_
                 have BK283 := n3_
                 have HB := n4_
                 clear n0_ n1_ n2_ n3_ n4_
                 (try clear hb)
                 (try clear hb2)
                 (try clear hk)
                 (try clear hi)
                 (try clear ho0)
                 refine hK.out _ _ ⟨(blk_cell BK283.out 0).trans rfl, (blk_cell BK283.out 1).trans rfl, (blk_cell BK283.out 2).trans rfl⟩ (fun hHeld => ?_)
                 clear hK K
                 refine norm_ (a' := ?_) ?_ ?_
                 rotate_left
                 ·
                  show Act.put _ (some 80) _ = _
                  simp only [Act.put, List.setIfInBounds_toArray, List.set_cons_zero, List.set_cons_succ, i64_w, i32_w]
                  rfl
                 exact norm_ (by first | (simp only [putAll, Act.put, List.setIfInBounds_toArray, List.set_cons_zero, List.set_cons_succ]; done) | (simp only [putAll, Act.put, List.setIfInBounds_toArray, List.set_cons_zero, List.set_cons_succ]; rfl)) (hJ8_13_14 (v300) _ ⟨hHeld, (by (with_reducible repeat (first | apply Kd.R_alloc | apply Kd.R_drewN | apply Kd.R_drew)); exact HO287.out), (by (with_reducible repeat (first | apply Kd.R_alloc | apply Kd.R_drewN | apply Kd.R_drew)); exact HO291.out), (by (with_reducible repeat (first | apply Kd.R_alloc | apply Kd.R_drewN | apply Kd.R_drew)); exact Kd.R_mono HO301.out (fun _ hk => ⟨hk.1.2, hk.2⟩)), (by (with_reducible repeat (first | refine blk_drewN ?_ _ | refine blk_drew ?_ | refine blk_alloc ?_ _)); exact BK283.out), (by repeat (first | (with_reducible first | exact HB.out | apply below_alloc | apply pw_below_drewN | apply below_drew1 | refine below_set ?_ GE283.out) | exact HB.out))⟩)
               ·
                skip
                rintro v300 w68 ⟨hS_, h0_, h1_, h2_, h3_, h4_⟩
                have n0_ : Aside0 (Kd.R (Kd.int .u8) 5 w68 w.heap.size (fun k_ => some k_ ≠ (v290 : Value).ownBlock ∧ some k_ ≠ (v300 : Value).ownBlock) v286 t285) := ⟨h0_⟩
                have n1_ : Aside0 (Kd.R (Kd.int .u8) 5 w68 w.heap.size (fun k_ => some k_ ≠ (v286 : Value).ownBlock ∧ some k_ ≠ (v300 : Value).ownBlock) v290 t289) := ⟨h1_⟩
                have n2_ : Aside0 (Kd.R (Kd.int .u8) 5 w68 w.heap.size (fun k_ => some k_ ≠ (v286 : Value).ownBlock ∧ some k_ ≠ (v290 : Value).ownBlock) v300 t299) := ⟨h2_⟩
                have n3_ : Aside0 (w68.heap[gb283]? = some (.cells #[.int .u16 a2_0, .int .u16 a2_1, .slice A2_2 l2_2.length c2_2] 80 (0, 0))) := ⟨h3_⟩
                have n4_ : Aside0 (Below w.heap.size w w68) := ⟨h4_⟩
                clear HO287
                clear HO291
                clear BK283
                clear HB
                clear h0_ h1_ h2_ h3_ h4_
                have HO287 := n0_
                have HO291 := n1_
                have HO301 := n2_
                have BK283 := n3_
                have HB := n4_
                clear n0_ n1_ n2_ n3_ n4_
                have hHeld : w68.cell? ⟨gb283, 0, none⟩ = some (.int .u16 a2_0) ∧ w68.cell? ⟨gb283, 1, none⟩ = some (.int .u16 a2_1) ∧ w68.cell? ⟨gb283, 2, none⟩ = some (.slice A2_2 l2_2.length c2_2) := hS_
                refine norm_ (a' := ?_) ?_ ?_
                rotate_left
                ·
                 simp only [putAll, Act.put, List.setIfInBounds_toArray, List.set_cons_zero, List.set_cons_succ]
                 rfl
                refine one_ (i := 8) (N := some 74) (bb 26 65535) rfl rfl (one_of HT_.out (by kernel_rfl)) (by decide) (fun K hK => ?_)
                have hcv69 := And.intro (own_string (P := Try.prog) Try.underlying23 Try.underlying5 Try.underlying9 (Kd.own_of_R HO287.out)) (fun n_ : Nat => own_string (P := Try.prog) Try.underlying23 Try.underlying5 Try.underlying9 (Kd.own_of_R (Kd.R_drewN HO287.out n_)))
                refine value_ (w1 := ?_) (v := ?_) (by rfl) rfl ?_ ?_
                rotate_left 2
                ·
                 go_simp
                 constructor
                 ·
                  rfl
                 ·
                  rfl
                clear hcv69
                refine hK.out _ _ ⟨(blk_cell BK283.out 0).trans rfl, (blk_cell BK283.out 1).trans rfl, (blk_cell BK283.out 2).trans rfl⟩ (fun hHeld => ?_)
                clear hK K
                refine norm_ (a' := ?_) ?_ ?_
                rotate_left
                ·
                 show Act.put _ (some 74) _ = _
                 simp only [Act.put, List.setIfInBounds_toArray, List.set_cons_zero, List.set_cons_succ, i64_w, i32_w]
                 rfl
                refine pure_ (i := 16) (N := some 82) (v := ?_) (a' := ?_) (bb 26 131071) rfl rfl (any_of HT_.out (by kernel_rfl)) (fun _ _ _ h => h) (Or.inl ⟨by rfl, ?_⟩) ?_ ?_
                rotate_left
                ·
                 intro w'
                 go_simp
                 with_reducible rfl
                rotate_left
                ·
                 simp only [Act.put, List.setIfInBounds_toArray, List.set_cons_zero, List.set_cons_succ, i64_w, i32_w]
                 rfl
                refine pure_ (i := 17) (N := some 83) (v := ?_) (a' := ?_) (bb 26 262143) rfl rfl (any_of HT_.out (by kernel_rfl)) (fun _ _ _ h => h) (Or.inl ⟨by rfl, ?_⟩) ?_ ?_
                rotate_left
                ·
                 intro w'
                 go_simp
                 with_reducible rfl
                rotate_left
                ·
                 simp only [Act.put, List.setIfInBounds_toArray, List.set_cons_zero, List.set_cons_succ, i64_w, i32_w]
                 rfl
                refine pure_ (i := 18) (N := some 84) (v := ?_) (a' := ?_) (bb 26 524287) rfl rfl (any_of HT_.out (by kernel_rfl)) (fun _ _ _ h => h) (Or.inl ⟨by rfl, ?_⟩) ?_ ?_
                rotate_left
                ·
                 intro w'
                 go_simp
                 with_reducible rfl
                rotate_left
                ·
                 simp only [Act.put, List.setIfInBounds_toArray, List.set_cons_zero, List.set_cons_succ, i64_w, i32_w]
                 rfl
                refine pure_ (i := 19) (N := some 85) (v := ?_) (a' := ?_) (bb 26 1048575) rfl rfl (any_of HT_.out (by kernel_rfl)) (fun _ _ _ h => h) (Or.inl ⟨by rfl, ?_⟩) ?_ ?_
                rotate_left
                ·
                 intro w'
                 go_simp
                 with_reducible rfl
                rotate_left
                ·
                 simp only [Act.put, List.setIfInBounds_toArray, List.set_cons_zero, List.set_cons_succ, i64_w, i32_w]
                 rfl
                refine take_ (i := 21) (N := some 87) (v := ?_) (a' := ?_) (bb 26 3145727) rfl rfl (take_ofW HT_.out HW_.out (by kernel_rfl)) (fun _ _ _ h => h) (Or.inl ⟨by rfl, ?_⟩) hHeld ?_ ?_
                rotate_left
                ·
                 rintro w' ⟨s0, s1, s2⟩
                 go_simp
                 with_reducible rfl
                rotate_left
                ·
                 simp only [Act.put, List.setIfInBounds_toArray, List.set_cons_zero, List.set_cons_succ, i64_w, i32_w]
                 rfl
                exact norm_ (by first | (simp only [putAll, Act.put, List.setIfInBounds_toArray, List.set_cons_zero, List.set_cons_succ]; done) | (simp only [putAll, Act.put, List.setIfInBounds_toArray, List.set_cons_zero, List.set_cons_succ]; rfl)) (hJ8_13_14_15 (v300) _ ⟨hHeld, (by (with_reducible repeat (first | apply Kd.R_alloc | apply Kd.R_drewN | apply Kd.R_drew)); exact HO287.out), (by (with_reducible repeat (first | apply Kd.R_alloc | apply Kd.R_drewN | apply Kd.R_drew)); exact HO291.out), (by (with_reducible repeat (first | apply Kd.R_alloc | apply Kd.R_drewN | apply Kd.R_drew)); exact HO301.out), (by (with_reducible repeat (first | refine blk_drewN ?_ _ | refine blk_drew ?_ | refine blk_alloc ?_ _)); exact BK283.out), (by repeat (first | (with_reducible first | exact HB.out | apply below_alloc | apply pw_below_drewN | apply below_drew1 | refine below_set ?_ GE283.out) | exact HB.out))⟩)
              ·
               skip
               rintro v300 w68 ⟨hS_, h0_, h1_, h2_, h3_, h4_⟩
               have n0_ : Aside0 (Kd.R (Kd.int .u8) 5 w68 w.heap.size (fun k_ => some k_ ≠ (v290 : Value).ownBlock ∧ some k_ ≠ (v300 : Value).ownBlock) v286 t285) := ⟨h0_⟩
               have n1_ : Aside0 (Kd.R (Kd.int .u8) 5 w68 w.heap.size (fun k_ => some k_ ≠ (v286 : Value).ownBlock ∧ some k_ ≠ (v300 : Value).ownBlock) v290 t289) := ⟨h1_⟩
               have n2_ : Aside0 (Kd.R (Kd.int .u8) 5 w68 w.heap.size (fun k_ => some k_ ≠ (v286 : Value).ownBlock ∧ some k_ ≠ (v290 : Value).ownBlock) v300 t299) := ⟨h2_⟩
               have n3_ : Aside0 (w68.heap[gb283]? = some (.cells #[.int .u16 a2_0, .int .u16 a2_1, .slice A2_2 l2_2.length c2_2] 80 (0, 0))) := ⟨h3_⟩
               have n4_ : Aside0 (Below w.heap.size w w68) := ⟨h4_⟩
               clear HO287
               clear HO291
               clear BK283
               clear HB
               clear h0_ h1_ h2_ h3_ h4_
               have HO287 := n0_
               have HO291 := n1_
               have HO301 := n2_
               have BK283 := n3_
               have HB := n4_
               clear n0_ n1_ n2_ n3_ n4_
               have hHeld : w68.cell? ⟨gb283, 0, none⟩ = some (.int .u16 a2_0) ∧ w68.cell? ⟨gb283, 1, none⟩ = some (.int .u16 a2_1) ∧ w68.cell? ⟨gb283, 2, none⟩ = some (.slice A2_2 l2_2.length c2_2) := hS_
               refine norm_ (a' := ?_) ?_ ?_
               rotate_left
               ·
                simp only [putAll, Act.put, List.setIfInBounds_toArray, List.set_cons_zero, List.set_cons_succ]
                rfl
               refine one_ (i := 15) (N := some 81) (bb 26 65535) rfl rfl (one_of HT_.out (by kernel_rfl)) (by decide) (fun K hK => ?_)
               have hcv69 := And.intro (own_string (P := Try.prog) Try.underlying23 Try.underlying5 Try.underlying9 (Kd.own_of_R HO301.out)) (fun n_ : Nat => own_string (P := Try.prog) Try.underlying23 Try.underlying5 Try.underlying9 (Kd.own_of_R (Kd.R_drewN HO301.out n_)))
               refine value_ (w1 := ?_) (v := ?_) (by rfl) rfl ?_ ?_
               rotate_left 2
               ·
                go_simp
                constructor
                ·
                 rfl
                ·
                 rfl
               clear hcv69
               refine hK.out _ _ ⟨(blk_cell BK283.out 0).trans rfl, (blk_cell BK283.out 1).trans rfl, (blk_cell BK283.out 2).trans rfl⟩ (fun hHeld => ?_)
               clear hK K
               refine norm_ (a' := ?_) ?_ ?_
               rotate_left
               ·
                show Act.put _ (some 81) _ = _
                simp only [Act.put, List.setIfInBounds_toArray, List.set_cons_zero, List.set_cons_succ, i64_w, i32_w]
                rfl
               refine pure_ (i := 16) (N := some 82) (v := ?_) (a' := ?_) (bb 26 131071) rfl rfl (any_of HT_.out (by kernel_rfl)) (fun _ _ _ h => h) (Or.inl ⟨by rfl, ?_⟩) ?_ ?_
               rotate_left
               ·
                intro w'
                go_simp
                with_reducible rfl
               rotate_left
               ·
                simp only [Act.put, List.setIfInBounds_toArray, List.set_cons_zero, List.set_cons_succ, i64_w, i32_w]
                rfl
               refine pure_ (i := 17) (N := some 83) (v := ?_) (a' := ?_) (bb 26 262143) rfl rfl (any_of HT_.out (by kernel_rfl)) (fun _ _ _ h => h) (Or.inl ⟨by rfl, ?_⟩) ?_ ?_
               rotate_left
               ·
                intro w'
                go_simp
                with_reducible rfl
               rotate_left
               ·
                simp only [Act.put, List.setIfInBounds_toArray, List.set_cons_zero, List.set_cons_succ, i64_w, i32_w]
                rfl
               refine pure_ (i := 18) (N := some 84) (v := ?_) (a' := ?_) (bb 26 524287) rfl rfl (any_of HT_.out (by kernel_rfl)) (fun _ _ _ h => h) (Or.inl ⟨by rfl, ?_⟩) ?_ ?_
               rotate_left
               ·
                intro w'
                go_simp
                with_reducible rfl
               rotate_left
               ·
                simp only [Act.put, List.setIfInBounds_toArray, List.set_cons_zero, List.set_cons_succ, i64_w, i32_w]
                rfl
               refine pure_ (i := 19) (N := some 85) (v := ?_) (a' := ?_) (bb 26 1048575) rfl rfl (any_of HT_.out (by kernel_rfl)) (fun _ _ _ h => h) (Or.inl ⟨by rfl, ?_⟩) ?_ ?_
               rotate_left
               ·
                intro w'
                go_simp
                with_reducible rfl
               rotate_left
               ·
                simp only [Act.put, List.setIfInBounds_toArray, List.set_cons_zero, List.set_cons_succ, i64_w, i32_w]
                rfl
               refine take_ (i := 21) (N := some 87) (v := ?_) (a' := ?_) (bb 26 3145727) rfl rfl (take_ofW HT_.out HW_.out (by kernel_rfl)) (fun _ _ _ h => h) (Or.inl ⟨by rfl, ?_⟩) hHeld ?_ ?_
               rotate_left
               ·
                rintro w' ⟨s0, s1, s2⟩
                go_simp
                with_reducible rfl
               rotate_left
               ·
                simp only [Act.put, List.setIfInBounds_toArray, List.set_cons_zero, List.set_cons_succ, i64_w, i32_w]
                rfl
               exact norm_ (by first | (simp only [putAll, Act.put, List.setIfInBounds_toArray, List.set_cons_zero, List.set_cons_succ]; done) | (simp only [putAll, Act.put, List.setIfInBounds_toArray, List.set_cons_zero, List.set_cons_succ]; rfl)) (hJ8_13_14_15 (v300) _ ⟨hHeld, (by (with_reducible repeat (first | apply Kd.R_alloc | apply Kd.R_drewN | apply Kd.R_drew)); exact HO287.out), (by (with_reducible repeat (first | apply Kd.R_alloc | apply Kd.R_drewN | apply Kd.R_drew)); exact HO291.out), (by (with_reducible repeat (first | apply Kd.R_alloc | apply Kd.R_drewN | apply Kd.R_drew)); exact HO301.out), (by (with_reducible repeat (first | refine blk_drewN ?_ _ | refine blk_drew ?_ | refine blk_alloc ?_ _)); exact BK283.out), (by repeat (first | (with_reducible first | exact HB.out | apply below_alloc | apply pw_below_drewN | apply below_drew1 | refine below_set ?_ GE283.out) | exact HB.out))⟩)
             ·
              skip
              rintro v300 w69 ⟨hS_, h0_, h1_, h2_, h3_, h4_⟩
              have n0_ : Aside0 (Kd.R (Kd.int .u8) 5 w69 w.heap.size (fun k_ => some k_ ≠ (v290 : Value).ownBlock ∧ some k_ ≠ (v300 : Value).ownBlock) v286 t285) := ⟨h0_⟩
              have n1_ : Aside0 (Kd.R (Kd.int .u8) 5 w69 w.heap.size (fun k_ => some k_ ≠ (v286 : Value).ownBlock ∧ some k_ ≠ (v300 : Value).ownBlock) v290 t289) := ⟨h1_⟩
              have n2_ : Aside0 (Kd.R (Kd.int .u8) 5 w69 w.heap.size (fun k_ => some k_ ≠ (v286 : Value).ownBlock ∧ some k_ ≠ (v290 : Value).ownBlock) v300 t299) := ⟨h2_⟩
              have n3_ : Aside0 (w69.heap[gb283]? = some (.cells #[.int .u16 a2_0, .int .u16 a2_1, .slice A2_2 l2_2.length c2_2] 80 (0, 0))) := ⟨h3_⟩
              have n4_ : Aside0 (Below w.heap.size w w69) := ⟨h4_⟩
              clear HO287
              clear HO291
              clear BK283
              clear HB
              clear h0_ h1_ h2_ h3_ h4_
              have HO287 := n0_
              have HO291 := n1_
              have HO301 := n2_
              have BK283 := n3_
              have HB := n4_
              clear n0_ n1_ n2_ n3_ n4_
              have hHeld : w69.cell? ⟨gb283, 0, none⟩ = some (.int .u16 a2_0) ∧ w69.cell? ⟨gb283, 1, none⟩ = some (.int .u16 a2_1) ∧ w69.cell? ⟨gb283, 2, none⟩ = some (.slice A2_2 l2_2.length c2_2) := hS_
              refine norm_ (a' := ?_) ?_ ?_
              rotate_left
              ·
               simp only [putAll, Act.put, List.setIfInBounds_toArray, List.set_cons_zero, List.set_cons_succ]
               rfl
              refine two_ (i := 20) (j := 22) (Ni := some 86) (Nj := some 88) (bb 26 4194303) (bb 26 7340031) rfl rfl rfl rfl (two_of HT_.out (by kernel_rfl)) (by decide) (by decide) (fun K hK => ?_) (fun K hK => ?_)
              ·
               skip
               have hcv70 := And.intro (own_string (P := Try.prog) Try.underlying23 Try.underlying5 Try.underlying9 (Kd.own_of_R HO291.out)) (fun n_ : Nat => own_string (P := Try.prog) Try.underlying23 Try.underlying5 Try.underlying9 (Kd.own_of_R (Kd.R_drewN HO291.out n_)))
               refine value_ (w1 := ?_) (v := ?_) (by rfl) rfl ?_ ?_
               rotate_left 2
               ·
                go_simp
                constructor
                ·
                 rfl
                ·
                 rfl
               clear hcv70
               refine hK.out _ _ ⟨(blk_cell BK283.out 0).trans rfl, (blk_cell BK283.out 1).trans rfl, (blk_cell BK283.out 2).trans rfl⟩ (fun hHeld => ?_)
               clear hK K
               refine norm_ (a' := ?_) ?_ ?_
               rotate_left
               ·
                show Act.put _ (some 86) _ = _
                simp only [Act.put, List.setIfInBounds_toArray, List.set_cons_zero, List.set_cons_succ, i64_w, i32_w]
                rfl
               exact norm_ (by first | (simp only [putAll, Act.put, List.setIfInBounds_toArray, List.set_cons_zero, List.set_cons_succ]; done) | (simp only [putAll, Act.put, List.setIfInBounds_toArray, List.set_cons_zero, List.set_cons_succ]; rfl)) (hJ8_13_14_15_20 (v300) _ ⟨hHeld, (by (with_reducible repeat (first | apply Kd.R_alloc | apply Kd.R_drewN | apply Kd.R_drew)); exact HO287.out), (by (with_reducible repeat (first | apply Kd.R_alloc | apply Kd.R_drewN | apply Kd.R_drew)); exact HO291.out), (by (with_reducible repeat (first | apply Kd.R_alloc | apply Kd.R_drewN | apply Kd.R_drew)); exact HO301.out), (by (with_reducible repeat (first | refine blk_drewN ?_ _ | refine blk_drew ?_ | refine blk_alloc ?_ _)); exact BK283.out), (by repeat (first | (with_reducible first | exact HB.out | apply below_alloc | apply pw_below_drewN | apply below_drew1 | refine below_set ?_ GE283.out) | exact HB.out))⟩)
              ·
               skip
               refine goes_ Try.func61 (by kernel_rfl) rfl #[.agg #[.int .u16 a2_0, .int .u16 a2_1, .slice A2_2 l2_2.length c2_2], .int .i64 0] (by rfl) rfl rfl (by (try simp only [List.map_toArray, List.map_cons, List.map_nil]); first | done | rfl | (simp only [List.length_drop, List.length_take]; rfl) | (go_simp; done) | (go_simp; omega)) ?_
               with_reducible refine (towroperef08_Bytes.calls a2_0 a2_1 _ _ l2_2 0 t302 _ ?side1 ?side2 A63.out).mono ?_
               (case side1 => repeat (first | exact (Kd.C_below HR2_2.out HB.out) | (with_reducible refine Kd.C_alloc ?_ _) | (with_reducible refine Kd.C_drewN ?_ _) | (with_reducible refine Kd.C_drew ?_)))
               (case side2 => exact HC2_2.out)
               rintro e w70 ⟨v303, rfl, ho0, hb⟩
               refine ⟨_, rfl, ?_⟩
               have n0_ := Aside0.mk (Kd.R_elder' (by (with_reducible repeat (first | apply Kd.R_alloc | apply Kd.R_drewN | apply Kd.R_drew)); exact HO287.out) (Kd.R_base ho0) hb)
               have n1_ := Aside0.mk (Kd.R_elder' (by (with_reducible repeat (first | apply Kd.R_alloc | apply Kd.R_drewN | apply Kd.R_drew)); exact HO291.out) (Kd.R_base ho0) hb)
               have n2_ := Aside0.mk (Kd.R_elder' (by (with_reducible repeat (first | apply Kd.R_alloc | apply Kd.R_drewN | apply Kd.R_drew)); exact HO301.out) (Kd.R_base ho0) hb)
               have n3_ := Aside0.mk (Kd.R_lower (Kd.R_new' (Kd.R_new' (Kd.R_new' ho0 (Kd.R_lt (by (with_reducible repeat (first | apply Kd.R_alloc | apply Kd.R_drewN | apply Kd.R_drew)); exact HO287.out))) (Kd.R_lt (by (with_reducible repeat (first | apply Kd.R_alloc | apply Kd.R_drewN | apply Kd.R_drew)); exact HO291.out))) (Kd.R_lt (by (with_reducible repeat (first | apply Kd.R_alloc | apply Kd.R_drewN | apply Kd.R_drew)); exact HO301.out))) (below_size (by repeat (first | (with_reducible first | exact HB.out | apply below_alloc | apply pw_below_drewN | apply below_drew1 | refine below_set ?_ GE283.out) | exact HB.out))))
               have n4_ := Aside0.mk (blk_below (g := gb283) (o := .cells #[.int .u16 a2_0, .int .u16 a2_1, .slice A2_2 l2_2.length c2_2] 80 (0, 0)) (by (with_reducible repeat (first | refine blk_drewN ?_ _ | refine blk_drew ?_ | refine blk_alloc ?_ _)); exact BK283.out) hb)
               have n5_ := Aside0.mk (below_step (by repeat (first | (with_reducible first | exact HB.out | apply below_alloc | apply pw_below_drewN | apply below_drew1 | refine below_set ?_ GE283.out) | exact HB.out)) hb)
               clear HO287
               clear HO291
               clear HO301
               clear BK283
               clear HB
               have HO287 := n0_
               have HO291 := n1_
               have HO301 := n2_
               have HO304 := n3_
               have BK283 := n4_
               have HB := n5_
               clear n0_ n1_ n2_ n3_ n4_ n5_
               (try clear hb)
               (try clear hb2)
               (try clear hk)
               (try clear hi)
               (try clear ho0)
               refine hK.out _ _ ⟨(blk_cell BK283.out 0).trans rfl, (blk_cell BK283.out 1).trans rfl, (blk_cell BK283.out 2).trans rfl⟩ (fun hHeld => ?_)
               clear hK K
               refine norm_ (a' := ?_) ?_ ?_
               rotate_left
               ·
                show Act.put _ (some 88) _ = _
                simp only [Act.put, List.setIfInBounds_toArray, List.set_cons_zero, List.set_cons_succ, i64_w, i32_w]
                rfl
               exact norm_ (by first | (simp only [putAll, Act.put, List.setIfInBounds_toArray, List.set_cons_zero, List.set_cons_succ]; done) | (simp only [putAll, Act.put, List.setIfInBounds_toArray, List.set_cons_zero, List.set_cons_succ]; rfl)) (hJ8_13_14_15_22 (v300, v303) _ ⟨hHeld, (by (with_reducible repeat (first | apply Kd.R_alloc | apply Kd.R_drewN | apply Kd.R_drew)); exact Kd.R_mono HO287.out (fun _ hk => ⟨hk.1.1, ⟨hk.1.2, hk.2⟩⟩)), (by (with_reducible repeat (first | apply Kd.R_alloc | apply Kd.R_drewN | apply Kd.R_drew)); exact Kd.R_mono HO291.out (fun _ hk => ⟨hk.1.1, ⟨hk.1.2, hk.2⟩⟩)), (by (with_reducible repeat (first | apply Kd.R_alloc | apply Kd.R_drewN | apply Kd.R_drew)); exact Kd.R_mono HO301.out (fun _ hk => ⟨hk.1.1, ⟨hk.1.2, hk.2⟩⟩)), (by (with_reducible repeat (first | apply Kd.R_alloc | apply Kd.R_drewN | apply Kd.R_drew)); exact Kd.R_mono HO304.out (fun _ hk => ⟨hk.1.1.2, ⟨hk.1.2, hk.2⟩⟩)), (by (with_reducible repeat (first | refine blk_drewN ?_ _ | refine blk_drew ?_ | refine blk_alloc ?_ _)); exact BK283.out), (by repeat (first | (with_reducible first | exact HB.out | apply below_alloc | apply pw_below_drewN | apply below_drew1 | refine below_set ?_ GE283.out) | exact HB.out))⟩)
            ·
             skip
             rintro ⟨v300, v303⟩ w70 ⟨hS_, h0_, h1_, h2_, h3_, h4_, h5_⟩
             have n0_ : Aside0 (Kd.R (Kd.int .u8) 5 w70 w.heap.size (fun k_ => some k_ ≠ (v290 : Value).ownBlock ∧ some k_ ≠ (v300 : Value).ownBlock ∧ some k_ ≠ (v303 : Value).ownBlock) v286 t285) := ⟨h0_⟩
             have n1_ : Aside0 (Kd.R (Kd.int .u8) 5 w70 w.heap.size (fun k_ => some k_ ≠ (v286 : Value).ownBlock ∧ some k_ ≠ (v300 : Value).ownBlock ∧ some k_ ≠ (v303 : Value).ownBlock) v290 t289) := ⟨h1_⟩
             have n2_ : Aside0 (Kd.R (Kd.int .u8) 5 w70 w.heap.size (fun k_ => some k_ ≠ (v286 : Value).ownBlock ∧ some k_ ≠ (v290 : Value).ownBlock ∧ some k_ ≠ (v303 : Value).ownBlock) v300 t299) := ⟨h2_⟩
             have n3_ : Aside0 (Kd.R (Kd.int .u8) 5 w70 w.heap.size (fun k_ => some k_ ≠ (v286 : Value).ownBlock ∧ some k_ ≠ (v290 : Value).ownBlock ∧ some k_ ≠ (v300 : Value).ownBlock) v303 t302) := ⟨h3_⟩
             have n4_ : Aside0 (w70.heap[gb283]? = some (.cells #[.int .u16 a2_0, .int .u16 a2_1, .slice A2_2 l2_2.length c2_2] 80 (0, 0))) := ⟨h4_⟩
             have n5_ : Aside0 (Below w.heap.size w w70) := ⟨h5_⟩
             clear HO287
             clear HO291
             clear BK283
             clear HB
             clear h0_ h1_ h2_ h3_ h4_ h5_
             have HO287 := n0_
             have HO291 := n1_
             have HO301 := n2_
             have HO304 := n3_
             have BK283 := n4_
             have HB := n5_
             clear n0_ n1_ n2_ n3_ n4_ n5_
             have hHeld : w70.cell? ⟨gb283, 0, none⟩ = some (.int .u16 a2_0) ∧ w70.cell? ⟨gb283, 1, none⟩ = some (.int .u16 a2_1) ∧ w70.cell? ⟨gb283, 2, none⟩ = some (.slice A2_2 l2_2.length c2_2) := hS_
             refine norm_ (a' := ?_) ?_ ?_
             rotate_left
             ·
              simp only [putAll, Act.put, List.setIfInBounds_toArray, List.set_cons_zero, List.set_cons_succ]
              rfl
             refine two_ (i := 20) (j := 23) (Ni := some 86) (Nj := some 89) (bb 26 8388607) (bb 26 15728639) rfl rfl rfl rfl (two_of HT_.out (by kernel_rfl)) (by decide) (by decide) (fun K hK => ?_) (fun K hK => ?_)
             ·
              skip
              have hcv71 := And.intro (own_string (P := Try.prog) Try.underlying23 Try.underlying5 Try.underlying9 (Kd.own_of_R HO291.out)) (fun n_ : Nat => own_string (P := Try.prog) Try.underlying23 Try.underlying5 Try.underlying9 (Kd.own_of_R (Kd.R_drewN HO291.out n_)))
              refine value_ (w1 := ?_) (v := ?_) (by rfl) rfl ?_ ?_
              rotate_left 2
              ·
               go_simp
               constructor
               ·
                rfl
               ·
                rfl
              clear hcv71
              refine hK.out _ _ ⟨(blk_cell BK283.out 0).trans rfl, (blk_cell BK283.out 1).trans rfl, (blk_cell BK283.out 2).trans rfl⟩ (fun hHeld => ?_)
              clear hK K
              refine norm_ (a' := ?_) ?_ ?_
              rotate_left
              ·
               show Act.put _ (some 86) _ = _
               simp only [Act.put, List.setIfInBounds_toArray, List.set_cons_zero, List.set_cons_succ, i64_w, i32_w]
               rfl
              exact norm_ (by first | (simp only [putAll, Act.put, List.setIfInBounds_toArray, List.set_cons_zero, List.set_cons_succ]; done) | (simp only [putAll, Act.put, List.setIfInBounds_toArray, List.set_cons_zero, List.set_cons_succ]; rfl)) (hJ8_13_14_15_20_22 (v300, v303) _ ⟨hHeld, (by (with_reducible repeat (first | apply Kd.R_alloc | apply Kd.R_drewN | apply Kd.R_drew)); exact HO287.out), (by (with_reducible repeat (first | apply Kd.R_alloc | apply Kd.R_drewN | apply Kd.R_drew)); exact HO291.out), (by (with_reducible repeat (first | apply Kd.R_alloc | apply Kd.R_drewN | apply Kd.R_drew)); exact HO301.out), (by (with_reducible repeat (first | apply Kd.R_alloc | apply Kd.R_drewN | apply Kd.R_drew)); exact HO304.out), (by (with_reducible repeat (first | refine blk_drewN ?_ _ | refine blk_drew ?_ | refine blk_alloc ?_ _)); exact BK283.out), (by repeat (first | (with_reducible first | exact HB.out | apply below_alloc | apply pw_below_drewN | apply below_drew1 | refine below_set ?_ GE283.out) | exact HB.out))⟩)
             ·
              skip
              have hcv71 := And.intro (own_string (P := Try.prog) Try.underlying23 Try.underlying5 Try.underlying9 (Kd.own_of_R HO304.out)) (fun n_ : Nat => own_string (P := Try.prog) Try.underlying23 Try.underlying5 Try.underlying9 (Kd.own_of_R (Kd.R_drewN HO304.out n_)))
              refine value_ (w1 := ?_) (v := ?_) (by rfl) rfl ?_ ?_
              rotate_left 2
              ·
               go_simp
               constructor
               ·
                rfl
               ·
                rfl
              clear hcv71
              refine hK.out _ _ ⟨(blk_cell BK283.out 0).trans rfl, (blk_cell BK283.out 1).trans rfl, (blk_cell BK283.out 2).trans rfl⟩ (fun hHeld => ?_)
              clear hK K
              refine norm_ (a' := ?_) ?_ ?_
              rotate_left
              ·
               show Act.put _ (some 89) _ = _
               simp only [Act.put, List.setIfInBounds_toArray, List.set_cons_zero, List.set_cons_succ, i64_w, i32_w]
               rfl
              exact norm_ (by first | (simp only [putAll, Act.put, List.setIfInBounds_toArray, List.set_cons_zero, List.set_cons_succ]; done) | (simp only [putAll, Act.put, List.setIfInBounds_toArray, List.set_cons_zero, List.set_cons_succ]; rfl)) (hJ8_13_14_15_22_23 (v300, v303) _ ⟨hHeld, (by (with_reducible repeat (first | apply Kd.R_alloc | apply Kd.R_drewN | apply Kd.R_drew)); exact HO287.out), (by (with_reducible repeat (first | apply Kd.R_alloc | apply Kd.R_drewN | apply Kd.R_drew)); exact HO291.out), (by (with_reducible repeat (first | apply Kd.R_alloc | apply Kd.R_drewN | apply Kd.R_drew)); exact HO301.out), (by (with_reducible repeat (first | apply Kd.R_alloc | apply Kd.R_drewN | apply Kd.R_drew)); exact HO304.out), (by (with_reducible repeat (first | refine blk_drewN ?_ _ | refine blk_drew ?_ | refine blk_alloc ?_ _)); exact BK283.out), (by repeat (first | (with_reducible first | exact HB.out | apply below_alloc | apply pw_below_drewN | apply below_drew1 | refine below_set ?_ GE283.out) | exact HB.out))⟩)
           ·
            skip
            rintro v300 w70 ⟨hS_, h0_, h1_, h2_, h3_, h4_⟩
            have n0_ : Aside0 (Kd.R (Kd.int .u8) 5 w70 w.heap.size (fun k_ => some k_ ≠ (v290 : Value).ownBlock ∧ some k_ ≠ (v300 : Value).ownBlock) v286 t285) := ⟨h0_⟩
            have n1_ : Aside0 (Kd.R (Kd.int .u8) 5 w70 w.heap.size (fun k_ => some k_ ≠ (v286 : Value).ownBlock ∧ some k_ ≠ (v300 : Value).ownBlock) v290 t289) := ⟨h1_⟩
            have n2_ : Aside0 (Kd.R (Kd.int .u8) 5 w70 w.heap.size (fun k_ => some k_ ≠ (v286 : Value).ownBlock ∧ some k_ ≠ (v290 : Value).ownBlock) v300 t299) := ⟨h2_⟩
            have n3_ : Aside0 (w70.heap[gb283]? = some (.cells #[.int .u16 a2_0, .int .u16 a2_1, .slice A2_2 l2_2.length c2_2] 80 (0, 0))) := ⟨h3_⟩
            have n4_ : Aside0 (Below w.heap.size w w70) := ⟨h4_⟩
            clear HO287
            clear HO291
            clear BK283
            clear HB
            clear h0_ h1_ h2_ h3_ h4_
            have HO287 := n0_
            have HO291 := n1_
            have HO301 := n2_
            have BK283 := n3_
            have HB := n4_
            clear n0_ n1_ n2_ n3_ n4_
            have hHeld : w70.cell? ⟨gb283, 0, none⟩ = some (.int .u16 a2_0) ∧ w70.cell? ⟨gb283, 1, none⟩ = some (.int .u16 a2_1) ∧ w70.cell? ⟨gb283, 2, none⟩ = some (.slice A2_2 l2_2.length c2_2) := hS_
            refine norm_ (a' := ?_) ?_ ?_
            rotate_left
            ·
             simp only [putAll, Act.put, List.setIfInBounds_toArray, List.set_cons_zero, List.set_cons_succ]
             rfl
            refine one_ (i := 22) (N := some 88) (bb 26 8388607) rfl rfl (one_of HT_.out (by kernel_rfl)) (by decide) (fun K hK => ?_)
            refine goes_ Try.func61 (by kernel_rfl) rfl #[.agg #[.int .u16 a2_0, .int .u16 a2_1, .slice A2_2 l2_2.length c2_2], .int .i64 0] (by rfl) rfl rfl (by (try simp only [List.map_toArray, List.map_cons, List.map_nil]); first | done | rfl | (simp only [List.length_drop, List.length_take]; rfl) | (go_simp; done) | (go_simp; omega)) ?_
            with_reducible refine (towroperef08_Bytes.calls a2_0 a2_1 _ _ l2_2 0 t302 _ ?side1 ?side2 A63.out).mono ?_
            (case side1 => repeat (first | exact (Kd.C_below HR2_2.out HB.out) | (with_reducible refine Kd.C_alloc ?_ _) | (with_reducible refine Kd.C_drewN ?_ _) | (with_reducible refine Kd.C_drew ?_)))
            (case side2 => exact HC2_2.out)
            rintro e w71 ⟨v303, rfl, ho0, hb⟩
            refine ⟨_, rfl, ?_⟩
            have n0_ := Aside0.mk (Kd.R_elder' (by (with_reducible repeat (first | apply Kd.R_alloc | apply Kd.R_drewN | apply Kd.R_drew)); exact HO287.out) (Kd.R_base ho0) hb)
            have n1_ := Aside0.mk (Kd.R_elder' (by (with_reducible repeat (first | apply Kd.R_alloc | apply Kd.R_drewN | apply Kd.R_drew)); exact HO291.out) (Kd.R_base ho0) hb)
            have n2_ := Aside0.mk (Kd.R_elder' (by (with_reducible repeat (first | apply Kd.R_alloc | apply Kd.R_drewN | apply Kd.R_drew)); exact HO301.out) (Kd.R_base ho0) hb)
            have n3_ := Aside0.mk (Kd.R_lower (Kd.R_new' (Kd.R_new' (Kd.R_new' ho0 (Kd.R_lt (by (with_reducible repeat (first | apply Kd.R_alloc | apply Kd.R_drewN | apply Kd.R_drew)); exact HO287.out))) (Kd.R_lt (by (with_reducible repeat (first | apply Kd.R_alloc | apply Kd.R_drewN | apply Kd.R_drew)); exact HO291.out))) (Kd.R_lt (by (with_reducible repeat (first | apply Kd.R_alloc | apply Kd.R_drewN | apply Kd.R_drew)); exact HO301.out))) (below_size (by repeat (first | (with_reducible first | exact HB.out | apply below_alloc | apply pw_below_drewN | apply below_drew1 | refine below_set ?_ GE283.out) | exact HB.out))))
            have n4_ := Aside0.mk (blk_below (g := gb283) (o := .cells #[.int .u16 a2_0, .int .u16 a2_1, .slice A2_2 l2_2.length c2_2] 80 (0, 0)) (by (with_reducible repeat (first | refine blk_drewN ?_ _ | refine blk_drew ?_ | refine blk_alloc ?_ _)); exact BK283.out) hb)
            have n5_ := Aside0.mk (below_step (by repeat (first | (with_reducible first | exact HB.out | apply below_alloc | apply pw_below_drewN | apply below_drew1 | refine below_set ?_ GE283.out) | exact HB.out)) hb)
            clear HO287
            clear HO291
            clear HO301
            clear BK283
            clear HB
            have HO287 := n0_
            have HO291 := n1_
            have HO301 := n2_
            have HO304 := n3_
            have BK283 := n4_
            have HB := n5_
            clear n0_ n1_ n2_ n3_ n4_ n5_
            (try clear hb)
            (try clear hb2)
            (try clear hk)
            (try clear hi)
            (try clear ho0)
            refine hK.out _ _ ⟨(blk_cell BK283.out 0).trans rfl, (blk_cell BK283.out 1).trans rfl, (blk_cell BK283.out 2).trans rfl⟩ (fun hHeld => ?_)
            clear hK K
            refine norm_ (a' := ?_) ?_ ?_
            rotate_left
            ·
             show Act.put _ (some 88) _ = _
             simp only [Act.put, List.setIfInBounds_toArray, List.set_cons_zero, List.set_cons_succ, i64_w, i32_w]
             rfl
            exact norm_ (by first | (simp only [putAll, Act.put, List.setIfInBounds_toArray, List.set_cons_zero, List.set_cons_succ]; done) | (simp only [putAll, Act.put, List.setIfInBounds_toArray, List.set_cons_zero, List.set_cons_succ]; rfl)) (hJ8_13_14_15_20_22 (v300, v303) _ ⟨hHeld, (by (with_reducible repeat (first | apply Kd.R_alloc | apply Kd.R_drewN | apply Kd.R_drew)); exact Kd.R_mono HO287.out (fun _ hk => ⟨hk.1.1, ⟨hk.1.2, hk.2⟩⟩)), (by (with_reducible repeat (first | apply Kd.R_alloc | apply Kd.R_drewN | apply Kd.R_drew)); exact Kd.R_mono HO291.out (fun _ hk => ⟨hk.1.1, ⟨hk.1.2, hk.2⟩⟩)), (by (with_reducible repeat (first | apply Kd.R_alloc | apply Kd.R_drewN | apply Kd.R_drew)); exact Kd.R_mono HO301.out (fun _ hk => ⟨hk.1.1, ⟨hk.1.2, hk.2⟩⟩)), (by (with_reducible repeat (first | apply Kd.R_alloc | apply Kd.R_drewN | apply Kd.R_drew)); exact Kd.R_mono HO304.out (fun _ hk => ⟨hk.1.1.2, ⟨hk.1.2, hk.2⟩⟩)), (by (with_reducible repeat (first | refine blk_drewN ?_ _ | refine blk_drew ?_ | refine blk_alloc ?_ _)); exact BK283.out), (by repeat (first | (with_reducible first | exact HB.out | apply below_alloc | apply pw_below_drewN | apply below_drew1 | refine below_set ?_ GE283.out) | exact HB.out))⟩)
          ·
           skip
           rintro ⟨v300, v303⟩ w71 ⟨hS_, h0_, h1_, h2_, h3_, h4_, h5_⟩
           have n0_ : Aside0 (Kd.R (Kd.int .u8) 5 w71 w.heap.size (fun k_ => some k_ ≠ (v290 : Value).ownBlock ∧ some k_ ≠ (v300 : Value).ownBlock ∧ some k_ ≠ (v303 : Value).ownBlock) v286 t285) := ⟨h0_⟩
           have n1_ : Aside0 (Kd.R (Kd.int .u8) 5 w71 w.heap.size (fun k_ => some k_ ≠ (v286 : Value).ownBlock ∧ some k_ ≠ (v300 : Value).ownBlock ∧ some k_ ≠ (v303 : Value).ownBlock) v290 t289) := ⟨h1_⟩
           have n2_ : Aside0 (Kd.R (Kd.int .u8) 5 w71 w.heap.size (fun k_ => some k_ ≠ (v286 : Value).ownBlock ∧ some k_ ≠ (v290 : Value).ownBlock ∧ some k_ ≠ (v303 : Value).ownBlock) v300 t299) := ⟨h2_⟩
           have n3_ : Aside0 (Kd.R (Kd.int .u8) 5 w71 w.heap.size (fun k_ => some k_ ≠ (v286 : Value).ownBlock ∧ some k_ ≠ (v290 : Value).ownBlock ∧ some k_ ≠ (v300 : Value).ownBlock) v303 t302) := ⟨h3_⟩
           have n4_ : Aside0 (w71.heap[gb283]? = some (.cells #[.int .u16 a2_0, .int .u16 a2_1, .slice A2_2 l2_2.length c2_2] 80 (0, 0))) := ⟨h4_⟩
           have n5_ : Aside0 (Below w.heap.size w w71) := ⟨h5_⟩
           clear HO287
           clear HO291
           clear BK283
           clear HB
           clear h0_ h1_ h2_ h3_ h4_ h5_
           have HO287 := n0_
           have HO291 := n1_
           have HO301 := n2_
           have HO304 := n3_
           have BK283 := n4_
           have HB := n5_
           clear n0_ n1_ n2_ n3_ n4_ n5_
           have hHeld : w71.cell? ⟨gb283, 0, none⟩ = some (.int .u16 a2_0) ∧ w71.cell? ⟨gb283, 1, none⟩ = some (.int .u16 a2_1) ∧ w71.cell? ⟨gb283, 2, none⟩ = some (.slice A2_2 l2_2.length c2_2) := hS_
           refine norm_ (a' := ?_) ?_ ?_
           rotate_left
           ·
            simp only [putAll, Act.put, List.setIfInBounds_toArray, List.set_cons_zero, List.set_cons_succ]
            rfl
           refine one_ (i := 20) (N := some 86) (bb 26 16777215) rfl rfl (one_of HT_.out (by kernel_rfl)) (by decide) (fun K hK => ?_)
           have hcv72 := And.intro (own_string (P := Try.prog) Try.underlying23 Try.underlying5 Try.underlying9 (Kd.own_of_R HO291.out)) (fun n_ : Nat => own_string (P := Try.prog) Try.underlying23 Try.underlying5 Try.underlying9 (Kd.own_of_R (Kd.R_drewN HO291.out n_)))
           refine value_ (w1 := ?_) (v := ?_) (by rfl) rfl ?_ ?_
           rotate_left 2
           ·
            go_simp
            constructor
            ·
             rfl
            ·
             rfl
           clear hcv72
           refine hK.out _ _ ⟨(blk_cell BK283.out 0).trans rfl, (blk_cell BK283.out 1).trans rfl, (blk_cell BK283.out 2).trans rfl⟩ (fun hHeld => ?_)
           clear hK K
           refine norm_ (a' := ?_) ?_ ?_
           rotate_left
           ·
            show Act.put _ (some 86) _ = _
            simp only [Act.put, List.setIfInBounds_toArray, List.set_cons_zero, List.set_cons_succ, i64_w, i32_w]
            rfl
           exact norm_ (by first | (simp only [putAll, Act.put, List.setIfInBounds_toArray, List.set_cons_zero, List.set_cons_succ]; done) | (simp only [putAll, Act.put, List.setIfInBounds_toArray, List.set_cons_zero, List.set_cons_succ]; rfl)) (hJ8_13_14_15_20_22_23 (v300, v303) _ ⟨hHeld, (by (with_reducible repeat (first | apply Kd.R_alloc | apply Kd.R_drewN | apply Kd.R_drew)); exact HO287.out), (by (with_reducible repeat (first | apply Kd.R_alloc | apply Kd.R_drewN | apply Kd.R_drew)); exact HO291.out), (by (with_reducible repeat (first | apply Kd.R_alloc | apply Kd.R_drewN | apply Kd.R_drew)); exact HO301.out), (by (with_reducible repeat (first | apply Kd.R_alloc | apply Kd.R_drewN | apply Kd.R_drew)); exact HO304.out), (by (with_reducible repeat (first | refine blk_drewN ?_ _ | refine blk_drew ?_ | refine blk_alloc ?_ _)); exact BK283.out), (by repeat (first | (with_reducible first | exact HB.out | apply below_alloc | apply pw_below_drewN | apply below_drew1 | refine below_set ?_ GE283.out) | exact HB.out))⟩)
         ·
          skip
          rintro ⟨v300, v303⟩ w71 ⟨hS_, h0_, h1_, h2_, h3_, h4_, h5_⟩
          have n0_ : Aside0 (Kd.R (Kd.int .u8) 5 w71 w.heap.size (fun k_ => some k_ ≠ (v290 : Value).ownBlock ∧ some k_ ≠ (v300 : Value).ownBlock ∧ some k_ ≠ (v303 : Value).ownBlock) v286 t285) := ⟨h0_⟩
          have n1_ : Aside0 (Kd.R (Kd.int .u8) 5 w71 w.heap.size (fun k_ => some k_ ≠ (v286 : Value).ownBlock ∧ some k_ ≠ (v300 : Value).ownBlock ∧ some k_ ≠ (v303 : Value).ownBlock) v290 t289) := ⟨h1_⟩
          have n2_ : Aside0 (Kd.R (Kd.int .u8) 5 w71 w.heap.size (fun k_ => some k_ ≠ (v286 : Value).ownBlock ∧ some k_ ≠ (v290 : Value).ownBlock ∧ some k_ ≠ (v303 : Value).ownBlock) v300 t299) := ⟨h2_⟩
          have n3_ : Aside0 (Kd.R (Kd.int .u8) 5 w71 w.heap.size (fun k_ => some k_ ≠ (v286 : Value).ownBlock ∧ some k_ ≠ (v290 : Value).ownBlock ∧ some k_ ≠ (v300 : Value).ownBlock) v303 t302) := ⟨h3_⟩
          have n4_ : Aside0 (w71.heap[gb283]? = some (.cells #[.int .u16 a2_0, .int .u16 a2_1, .slice A2_2 l2_2.length c2_2] 80 (0, 0))) := ⟨h4_⟩
          have n5_ : Aside0 (Below w.heap.size w w71) := ⟨h5_⟩
          clear HO287
          clear HO291
          clear BK283
          clear HB
          clear h0_ h1_ h2_ h3_ h4_ h5_
          have HO287 := n0_
          have HO291 := n1_
          have HO301 := n2_
          have HO304 := n3_
          have BK283 := n4_
          have HB := n5_
          clear n0_ n1_ n2_ n3_ n4_ n5_
          have hHeld : w71.cell? ⟨gb283, 0, none⟩ = some (.int .u16 a2_0) ∧ w71.cell? ⟨gb283, 1, none⟩ = some (.int .u16 a2_1) ∧ w71.cell? ⟨gb283, 2, none⟩ = some (.slice A2_2 l2_2.length c2_2) := hS_
          refine norm_ (a' := ?_) ?_ ?_
          rotate_left
          ·
           simp only [putAll, Act.put, List.setIfInBounds_toArray, List.set_cons_zero, List.set_cons_succ]
           rfl
          refine one_ (i := 23) (N := some 89) (bb 26 16777215) rfl rfl (one_of HT_.out (by kernel_rfl)) (by decide) (fun K hK => ?_)
          have hcv72 := And.intro (own_string (P := Try.prog) Try.underlying23 Try.underlying5 Try.underlying9 (Kd.own_of_R HO304.out)) (fun n_ : Nat => own_string (P := Try.prog) Try.underlying23 Try.underlying5 Try.underlying9 (Kd.own_of_R (Kd.R_drewN HO304.out n_)))
          refine value_ (w1 := ?_) (v := ?_) (by rfl) rfl ?_ ?_
          rotate_left 2
          ·
           go_simp
           constructor
           ·
            rfl
           ·
            rfl
          clear hcv72
          refine hK.out _ _ ⟨(blk_cell BK283.out 0).trans rfl, (blk_cell BK283.out 1).trans rfl, (blk_cell BK283.out 2).trans rfl⟩ (fun hHeld => ?_)
          clear hK K
          refine norm_ (a' := ?_) ?_ ?_
          rotate_left
          ·
           show Act.put _ (some 89) _ = _
           simp only [Act.put, List.setIfInBounds_toArray, List.set_cons_zero, List.set_cons_succ, i64_w, i32_w]
           rfl
          exact norm_ (by first | (simp only [putAll, Act.put, List.setIfInBounds_toArray, List.set_cons_zero, List.set_cons_succ]; done) | (simp only [putAll, Act.put, List.setIfInBounds_toArray, List.set_cons_zero, List.set_cons_succ]; rfl)) (hJ8_13_14_15_20_22_23 (v300, v303) _ ⟨hHeld, (by (with_reducible repeat (first | apply Kd.R_alloc | apply Kd.R_drewN | apply Kd.R_drew)); exact HO287.out), (by (with_reducible repeat (first | apply Kd.R_alloc | apply Kd.R_drewN | apply Kd.R_drew)); exact HO291.out), (by (with_reducible repeat (first | apply Kd.R_alloc | apply Kd.R_drewN | apply Kd.R_drew)); exact HO301.out), (by (with_reducible repeat (first | apply Kd.R_alloc | apply Kd.R_drewN | apply Kd.R_drew)); exact HO304.out), (by (with_reducible repeat (first | refine blk_drewN ?_ _ | refine blk_drew ?_ | refine blk_alloc ?_ _)); exact BK283.out), (by repeat (first | (with_reducible first | exact HB.out | apply below_alloc | apply pw_below_drewN | apply below_drew1 | refine below_set ?_ GE283.out) | exact HB.out))⟩)
        rintro ⟨v300, v303⟩ w72 ⟨hS_, h0_, h1_, h2_, h3_, h4_, h5_⟩
        have n0_ : Aside0 (Kd.R (Kd.int .u8) 5 w72 w.heap.size (fun k_ => some k_ ≠ (v290 : Value).ownBlock ∧ some k_ ≠ (v300 : Value).ownBlock ∧ some k_ ≠ (v303 : Value).ownBlock) v286 t285) := ⟨h0_⟩
        have n1_ : Aside0 (Kd.R (Kd.int .u8) 5 w72 w.heap.size (fun k_ => some k_ ≠ (v286 : Value).ownBlock ∧ some k_ ≠ (v300 : Value).ownBlock ∧ some k_ ≠ (v303 : Value).ownBlock) v290 t289) := ⟨h1_⟩
        have n2_ : Aside0 (Kd.R (Kd.int .u8) 5 w72 w.heap.size (fun k_ => some k_ ≠ (v286 : Value).ownBlock ∧ some k_ ≠ (v290 : Value).ownBlock ∧ some k_ ≠ (v303 : Value).ownBlock) v300 t299) := ⟨h2_⟩
        have n3_ : Aside0 (Kd.R (Kd.int .u8) 5 w72 w.heap.size (fun k_ => some k_ ≠ (v286 : Value).ownBlock ∧ some k_ ≠ (v290 : Value).ownBlock ∧ some k_ ≠ (v300 : Value).ownBlock) v303 t302) := ⟨h3_⟩
        have n4_ : Aside0 (w72.heap[gb283]? = some (.cells #[.int .u16 a2_0, .int .u16 a2_1, .slice A2_2 l2_2.length c2_2] 80 (0, 0))) := ⟨h4_⟩
        have n5_ : Aside0 (Below w.heap.size w w72) := ⟨h5_⟩
        clear HO287
        clear HO291
        clear BK283
        clear HB
        clear h0_ h1_ h2_ h3_ h4_ h5_
        have HO287 := n0_
        have HO291 := n1_
        have HO301 := n2_
        have HO304 := n3_
        have BK283 := n4_
        have HB := n5_
        clear n0_ n1_ n2_ n3_ n4_ n5_
        have hHeld : w72.cell? ⟨gb283, 0, none⟩ = some (.int .u16 a2_0) ∧ w72.cell? ⟨gb283, 1, none⟩ = some (.int .u16 a2_1) ∧ w72.cell? ⟨gb283, 2, none⟩ = some (.slice A2_2 l2_2.length c2_2) := hS_
        refine norm_ (a' := ?_) ?_ ?_
        rotate_left
        ·
         simp only [putAll, Act.put, List.setIfInBounds_toArray, List.set_cons_zero, List.set_cons_succ]
         rfl
        refine pure_ (i := 24) (N := some 90) (v := ?_) (a' := ?_) (bb 26 33554431) rfl rfl (any_of HT_.out (by kernel_rfl)) (fun _ _ _ h => h) (Or.inl ⟨by rfl, ?_⟩) ?_ ?_
        rotate_left
        ·
         intro w'
         go_simp
         with_reducible rfl
        rotate_left
        ·
         simp only [Act.put, List.setIfInBounds_toArray, List.set_cons_zero, List.set_cons_succ, i64_w, i32_w]
         rfl
        refine pure_ (i := 25) (N := some 91) (v := ?_) (a' := ?_) (bb 26 67108863) rfl rfl (any_of HT_.out (by kernel_rfl)) (fun _ _ _ h => h) (Or.inl ⟨by rfl, ?_⟩) ?_ ?_
        rotate_left
        ·
         intro w'
         go_simp
         with_reducible rfl
        rotate_left
        ·
         simp only [Act.put, List.setIfInBounds_toArray, List.set_cons_zero, List.set_cons_succ, i64_w, i32_w]
         rfl
        refine done_ (done_of HT_.out (by kernel_rfl)) ?_
        try go_wp2
        go_meet
        case rel => exact ⟨_, (((strOfNums t289).toList != (strOfNums t302).toList)), (by first | rfl | (simp; done) | (simp [*]; done)), H', ⟨by have := HJ4.out; first | omega | exact Nat.le_refl _⟩, ⟨by (with_reducible repeat (first | apply Kd.R_alloc | apply Kd.R_drewN | apply Kd.R_drew)); exact Kd.R_mono HO287.out (fun _ hk => hk.1)⟩, ⟨by (with_reducible repeat (first | apply Kd.R_alloc | apply Kd.R_drewN | apply Kd.R_drew)); exact Kd.R_mono HO291.out (fun _ hk => hk.1)⟩, ⟨by (with_reducible repeat (first | refine blk_drewN ?_ _ | refine blk_drew ?_ | refine blk_alloc ?_ _)); exact BK283.out⟩, ⟨by repeat (first | (with_reducible first | exact HB.out | apply below_alloc | apply pw_below_drewN | apply below_drew1 | refine below_set ?_ GE283.out) | exact HB.out)⟩⟩
       ·
        rw [if_neg c62] at H
        have c62b0 : ((strOfNums t285).toList == (strOfNums t299).toList) = false := beq_eq_false_iff_ne.mpr c62
        have c62b1 : ((strOfNums t285).toList != (strOfNums t299).toList) = true := bne_iff_ne.mpr c62
        have H' := Aside0.mk H
        clear H
        try go_wp2
        have n0_ := Aside0.mk (Kd.R_drew HO287.out)
        have n1_ := Aside0.mk (Kd.R_drew HO291.out)
        have n2_ := Aside0.mk (blk_drew BK283.out)
        have n3_ := Aside0.mk (below_drew1 HB.out)
        clear HO287
        clear HO291
        clear BK283
        clear HB
        have HO287 := n0_
        have HO291 := n1_
        have BK283 := n2_
        have HB := n3_
        clear n0_ n1_ n2_ n3_
        refine start_ (n := 26) (S := fun w' => w'.cell? ⟨gb283, 0, none⟩ = some (.int .u16 a2_0) ∧ w'.cell? ⟨gb283, 1, none⟩ = some (.int .u16 a2_1) ∧ w'.cell? ⟨gb283, 2, none⟩ = some (.slice A2_2 l2_2.length c2_2)) (ds := []) (bb 26 0) (by kernel_rfl) rfl rfl ⟨(blk_cell BK283.out 0).trans rfl, (blk_cell BK283.out 1).trans rfl, (blk_cell BK283.out 2).trans rfl⟩ (fun hHeld => ?_); refine with_tabW towropelaw08_GramPuts.tab8 towropelaw08_GramPuts.bits8 (fun HT_ HW_ => ?_)
        generalize w55.drew = w73 at HO287 HO291 BK283 HB hHeld ⊢
        refine pure_ (i := 0) (N := some 66) (v := ?_) (a' := ?_) (bb 26 1) rfl rfl (any_of HT_.out (by kernel_rfl)) (fun _ _ _ h => h) (Or.inl ⟨by rfl, ?_⟩) ?_ ?_
        rotate_left
        ·
         intro w'
         go_simp
         with_reducible rfl
        rotate_left
        ·
         simp only [Act.put, List.setIfInBounds_toArray, List.set_cons_zero, List.set_cons_succ, i64_w, i32_w]
         rfl
        refine pure_ (i := 2) (N := some 68) (v := ?_) (a' := ?_) (bb 26 5) rfl rfl (any_of HT_.out (by kernel_rfl)) (fun _ _ _ h => h) (Or.inl ⟨by rfl, ?_⟩) ?_ ?_
        rotate_left
        ·
         intro w'
         go_simp
         with_reducible rfl
        rotate_left
        ·
         simp only [Act.put, List.setIfInBounds_toArray, List.set_cons_zero, List.set_cons_succ, i64_w, i32_w]
         rfl
        refine one_ (i := 1) (N := some 67) (bb 26 7) rfl rfl (one_of HT_.out (by kernel_rfl)) (by decide) (fun K hK => ?_)
        refine goes_ Try.func49 (by kernel_rfl) rfl #[.int .i64 t288] (by rfl) rfl rfl (by (try simp only [List.map_toArray, List.map_cons, List.map_nil]); first | done | rfl | (simp only [List.length_drop, List.length_take]; rfl) | (go_simp; done) | (go_simp; omega)) ?_
        with_reducible refine (towropelaw08_code.calls t288 t296 _ A57.out).mono ?_
        rintro e w' ⟨rfl, ⟨nd, rfl⟩⟩
        refine ⟨_, rfl, ?_⟩
        refine hK.out _ _ ⟨(blk_cell BK283.out 0).trans rfl, (blk_cell BK283.out 1).trans rfl, (blk_cell BK283.out 2).trans rfl⟩ (fun hHeld => ?_)
        clear hK K
        refine norm_ (a' := ?_) ?_ ?_
        rotate_left
        ·
         show Act.put _ (some 67) _ = _
         simp only [Act.put, List.setIfInBounds_toArray, List.set_cons_zero, List.set_cons_succ, i64_w, i32_w]
         rfl
        refine one_ (i := 3) (N := some 69) (bb 26 15) rfl rfl (one_of HT_.out (by kernel_rfl)) (by decide) (fun K hK => ?_)
        refine goes_ Try.func49 (by kernel_rfl) rfl #[.int .i64 t292] (by rfl) rfl rfl (by (try simp only [List.map_toArray, List.map_cons, List.map_nil]); first | done | rfl | (simp only [List.length_drop, List.length_take]; rfl) | (go_simp; done) | (go_simp; omega)) ?_
        with_reducible refine (towropelaw08_code.calls t292 t297 _ A58.out).mono ?_
        rintro e w' ⟨rfl, ⟨nd, rfl⟩⟩
        refine ⟨_, rfl, ?_⟩
        refine hK.out _ _ ⟨(blk_cell BK283.out 0).trans rfl, (blk_cell BK283.out 1).trans rfl, (blk_cell BK283.out 2).trans rfl⟩ (fun hHeld => ?_)
        clear hK K
        refine norm_ (a' := ?_) ?_ ?_
        rotate_left
        ·
         show Act.put _ (some 69) _ = _
         simp only [Act.put, List.setIfInBounds_toArray, List.set_cons_zero, List.set_cons_succ, i64_w, i32_w]
         rfl
        refine pure_ (i := 4) (N := some 70) (v := ?_) (a' := ?_) (bb 26 31) rfl rfl (any_of HT_.out (by kernel_rfl)) (fun _ _ _ h => h) (Or.inl ⟨by rfl, ?_⟩) ?_ ?_
        rotate_left
        ·
         intro w'
         go_simp
         with_reducible rfl
        rotate_left
        ·
         simp only [Act.put, List.setIfInBounds_toArray, List.set_cons_zero, List.set_cons_succ, i64_w, i32_w]
         rfl
        refine pure_ (i := 5) (N := some 71) (v := ?_) (a' := ?_) (bb 26 63) rfl rfl (any_of HT_.out (by kernel_rfl)) (fun _ _ _ h => h) (Or.inl ⟨by rfl, ?_⟩) ?_ ?_
        rotate_left
        ·
         intro w'
         go_simp
         with_reducible rfl
        rotate_left
        ·
         simp only [Act.put, List.setIfInBounds_toArray, List.set_cons_zero, List.set_cons_succ, i64_w, i32_w]
         rfl
        refine pure_ (i := 6) (N := some 72) (v := ?_) (a' := ?_) (bb 26 127) rfl rfl (any_of HT_.out (by kernel_rfl)) (fun _ _ _ h => h) (Or.inl ⟨by rfl, ?_⟩) ?_ ?_
        rotate_left
        ·
         intro w'
         go_simp
         with_reducible rfl
        rotate_left
        ·
         simp only [Act.put, List.setIfInBounds_toArray, List.set_cons_zero, List.set_cons_succ, i64_w, i32_w]
         rfl
        refine pure_ (i := 7) (N := some 73) (v := ?_) (a' := ?_) (bb 26 255) rfl rfl (any_of HT_.out (by kernel_rfl)) (fun _ _ _ h => h) (Or.inl ⟨by rfl, ?_⟩) ?_ ?_
        rotate_left
        ·
         intro w'
         go_simp
         with_reducible rfl
        rotate_left
        ·
         simp only [Act.put, List.setIfInBounds_toArray, List.set_cons_zero, List.set_cons_succ, i64_w, i32_w]
         rfl
        refine pure_ (i := 10) (N := some 76) (v := ?_) (a' := ?_) (bb 26 1279) rfl rfl (any_of HT_.out (by kernel_rfl)) (fun _ _ _ h => h) (Or.inl ⟨by rfl, ?_⟩) ?_ ?_
        rotate_left
        ·
         intro w'
         go_simp
         with_reducible rfl
        rotate_left
        ·
         simp only [Act.put, List.setIfInBounds_toArray, List.set_cons_zero, List.set_cons_succ, i64_w, i32_w]
         rfl
        refine pure_ (i := 11) (N := some 77) (v := ?_) (a' := ?_) (bb 26 3327) rfl rfl (any_of HT_.out (by kernel_rfl)) (fun _ _ _ h => h) (Or.inl ⟨by rfl, ?_⟩) ?_ ?_
        rotate_left
        ·
         intro w'
         go_simp
         with_reducible rfl
        rotate_left
        ·
         simp only [Act.put, List.setIfInBounds_toArray, List.set_cons_zero, List.set_cons_succ, i64_w, i32_w]
         rfl
        refine take_ (i := 9) (N := some 75) (v := ?_) (a' := ?_) (bb 26 3839) rfl rfl (take_ofW HT_.out HW_.out (by kernel_rfl)) (fun _ _ _ h => h) (Or.inl ⟨by rfl, ?_⟩) hHeld ?_ ?_
        rotate_left
        ·
         rintro w' ⟨s0, s1, s2⟩
         go_simp
         with_reducible rfl
        rotate_left
        ·
         simp only [Act.put, List.setIfInBounds_toArray, List.set_cons_zero, List.set_cons_succ, i64_w, i32_w]
         rfl
        refine take_ (i := 12) (N := some 78) (v := ?_) (a' := ?_) (bb 26 7935) rfl rfl (take_ofW HT_.out HW_.out (by kernel_rfl)) (fun _ _ _ h => h) (Or.inl ⟨by rfl, ?_⟩) hHeld ?_ ?_
        rotate_left
        ·
         rintro w' ⟨s0, s1, s2⟩
         go_simp
         with_reducible rfl
        rotate_left
        ·
         simp only [Act.put, List.setIfInBounds_toArray, List.set_cons_zero, List.set_cons_succ, i64_w, i32_w]
         rfl
        refine join_ (σ := Value) 10 (bb 26 65535) (fun s_ => [(74, .string (strOfNums t285)), (79, .int .i64 t298), (80, s_), (81, .string (strOfNums t299))]) (fun s_ w' => (w'.cell? ⟨gb283, 0, none⟩ = some (.int .u16 a2_0) ∧ w'.cell? ⟨gb283, 1, none⟩ = some (.int .u16 a2_1) ∧ w'.cell? ⟨gb283, 2, none⟩ = some (.slice A2_2 l2_2.length c2_2)) ∧ (Kd.R (Kd.int .u8) 5 w' w.heap.size (fun k_ => some k_ ≠ (v290 : Value).ownBlock ∧ some k_ ≠ (s_ : Value).ownBlock) v286 t285) ∧ (Kd.R (Kd.int .u8) 5 w' w.heap.size (fun k_ => some k_ ≠ (v286 : Value).ownBlock ∧ some k_ ≠ (s_ : Value).ownBlock) v290 t289) ∧ (Kd.R (Kd.int .u8) 5 w' w.heap.size (fun k_ => some k_ ≠ (v286 : Value).ownBlock ∧ some k_ ≠ (v290 : Value).ownBlock) s_ t299) ∧ (w'.heap[gb283]? = some (.cells #[.int .u16 a2_0, .int .u16 a2_1, .slice A2_2 l2_2.length c2_2] 80 (0, 0))) ∧ (Below w.heap.size w w')) ?_ ?_
        rotate_left
        ·
         intro hCont
         refine two_ (i := 8) (j := 13) (Ni := some 74) (Nj := some 79) (bb 26 8191) (bb 26 16127) rfl rfl rfl rfl (two_of HT_.out (by kernel_rfl)) (by decide) (by decide) (fun K hK => ?_) (fun K hK => ?_)
         ·
          skip
          have hcv74 := And.intro (own_string (P := Try.prog) Try.underlying23 Try.underlying5 Try.underlying9 (Kd.own_of_R HO287.out)) (fun n_ : Nat => own_string (P := Try.prog) Try.underlying23 Try.underlying5 Try.underlying9 (Kd.own_of_R (Kd.R_drewN HO287.out n_)))
          refine value_ (w1 := ?_) (v := ?_) (by rfl) rfl ?_ ?_
          rotate_left 2
          ·
           go_simp
           constructor
           ·
            rfl
           ·
            rfl
          clear hcv74
          refine hK.out _ _ ⟨(blk_cell BK283.out 0).trans rfl, (blk_cell BK283.out 1).trans rfl, (blk_cell BK283.out 2).trans rfl⟩ (fun hHeld => ?_)
          clear hK K
          refine norm_ (a' := ?_) ?_ ?_
          rotate_left
          ·
           show Act.put _ (some 74) _ = _
           simp only [Act.put, List.setIfInBounds_toArray, List.set_cons_zero, List.set_cons_succ, i64_w, i32_w]
           rfl
          refine one_ (i := 13) (N := some 79) (bb 26 16383) rfl rfl (one_of HT_.out (by kernel_rfl)) (by decide) (fun K hK => ?_)
          refine goes_ Try.func62 (by kernel_rfl) rfl #[.int .u32 a0, .int .u32 a1, .agg #[.int .u16 a2_0, .int .u16 a2_1, .slice A2_2 l2_2.length c2_2]] (by rfl) rfl rfl (by (try simp only [List.map_toArray, List.map_cons, List.map_nil]); first | done | rfl | (simp only [List.length_drop, List.length_take]; rfl) | (go_simp; done) | (go_simp; omega)) ?_
          with_reducible refine (towroperef08_Check.calls kj4 a0 a1 a2_0 a2_1 _ _ l2_2 t298 _ ?side1 ?side2 A60.out).mono ?_
          (case side1 => repeat (first | exact (Kd.C_below HR2_2.out (by repeat (first | (with_reducible first | exact HB.out | apply below_alloc | apply pw_below_drewN | apply below_drew1 | refine below_set ?_ GE283.out) | exact HB.out))) | (with_reducible refine Kd.C_alloc ?_ _) | (with_reducible refine Kd.C_drewN ?_ _) | (with_reducible refine Kd.C_drew ?_)))
          (case side2 => exact HC2_2.out)
          rintro e w75 ⟨rfl, hb⟩
          refine ⟨_, rfl, ?_⟩
          have n0_ := Aside0.mk (Kd.R_below (by (with_reducible repeat (first | apply Kd.R_alloc | apply Kd.R_drewN | apply Kd.R_drew)); exact HO287.out) hb)
          have n1_ := Aside0.mk (Kd.R_below (by (with_reducible repeat (first | apply Kd.R_alloc | apply Kd.R_drewN | apply Kd.R_drew)); exact HO291.out) hb)
          have n2_ := Aside0.mk (blk_below (g := gb283) (o := .cells #[.int .u16 a2_0, .int .u16 a2_1, .slice A2_2 l2_2.length c2_2] 80 (0, 0)) (by (with_reducible repeat (first | refine blk_drewN ?_ _ | refine blk_drew ?_ | refine blk_alloc ?_ _)); exact BK283.out) hb)
          have n3_ := Aside0.mk (below_step (by repeat (first | (with_reducible first | exact HB.out | apply below_alloc | apply pw_below_drewN | apply below_drew1 | refine below_set ?_ GE283.out) | exact HB.out)) hb)
          clear HO287
          clear HO291
          clear BK283
          clear HB
          have HO287 := n0_
          have HO291 := n1_
          have BK283 := n2_
          have HB := n3_
          clear n0_ n1_ n2_ n3_
          (try clear hb)
          (try clear hb2)
          (try clear hk)
          (try clear hi)
          refine hK.out _ _ ⟨(blk_cell BK283.out 0).trans rfl, (blk_cell BK283.out 1).trans rfl, (blk_cell BK283.out 2).trans rfl⟩ (fun hHeld => ?_)
          clear hK K
          refine norm_ (a' := ?_) ?_ ?_
          rotate_left
          ·
           show Act.put _ (some 79) _ = _
           simp only [Act.put, List.setIfInBounds_toArray, List.set_cons_zero, List.set_cons_succ, i64_w, i32_w]
           rfl
          refine one_ (i := 14) (N := some 80) (bb 26 32767) rfl rfl (one_of HT_.out (by kernel_rfl)) (by decide) (fun K hK => ?_)
          refine goes_ Try.func61 (by kernel_rfl) rfl #[.agg #[.int .u16 a2_0, .int .u16 a2_1, .slice A2_2 l2_2.length c2_2], .int .i64 t298] (by rfl) rfl rfl (by (try simp only [List.map_toArray, List.map_cons, List.map_nil]); first | done | rfl | (simp only [List.length_drop, List.length_take]; rfl) | (go_simp; done) | (go_simp; omega)) ?_
          with_reducible refine (towroperef08_Bytes.calls a2_0 a2_1 _ _ l2_2 t298 t299 _ ?side1 ?side2 A61.out).mono ?_
          (case side1 => repeat (first | exact (Kd.C_below HR2_2.out HB.out) | (with_reducible refine Kd.C_alloc ?_ _) | (with_reducible refine Kd.C_drewN ?_ _) | (with_reducible refine Kd.C_drew ?_)))
          (case side2 => exact HC2_2.out)
          rintro e w76 ⟨v300, rfl, ho0, hb⟩
          refine ⟨_, rfl, ?_⟩
          have n0_ := Aside0.mk (Kd.R_elder' (by (with_reducible repeat (first | apply Kd.R_alloc | apply Kd.R_drewN | apply Kd.R_drew)); exact HO287.out) (Kd.R_base ho0) hb)
          have n1_ := Aside0.mk (Kd.R_elder' (by (with_reducible repeat (first | apply Kd.R_alloc | apply Kd.R_drewN | apply Kd.R_drew)); exact HO291.out) (Kd.R_base ho0) hb)
          have n2_ := Aside0.mk (Kd.R_lower (Kd.R_new' (Kd.R_new' ho0 (Kd.R_lt (by (with_reducible repeat (first | apply Kd.R_alloc | apply Kd.R_drewN | apply Kd.R_drew)); exact HO287.out))) (Kd.R_lt (by (with_reducible repeat (first | apply Kd.R_alloc | apply Kd.R_drewN | apply Kd.R_drew)); exact HO291.out))) (below_size (by repeat (first | (with_reducible first | exact HB.out | apply below_alloc | apply pw_below_drewN | apply below_drew1 | refine below_set ?_ GE283.out) | exact HB.out))))
          have n3_ := Aside0.mk (blk_below (g := gb283) (o := .cells #[.int .u16 a2_0, .int .u16 a2_1, .slice A2_2 l2_2.length c2_2] 80 (0, 0)) (by (with_reducible repeat (first | refine blk_drewN ?_ _ | refine blk_drew ?_ | refine blk_alloc ?_ _)); exact BK283.out) hb)
          have n4_ := Aside0.mk (below_step (by repeat (first | (with_reducible first | exact HB.out | apply below_alloc | apply pw_below_drewN | apply below_drew1 | refine below_set ?_ GE283.out) | exact HB.out)) hb)
          clear HO287
          clear HO291
          clear BK283
          clear HB
          have HO287 := n0_
          have HO291 := n1_
          have HO301 := n2_
          have BK283 := n3_
          have HB := n4_
          clear n0_ n1_ n2_ n3_ n4_
          (try clear hb)
          (try clear hb2)
          (try clear hk)
          (try clear hi)
          (try clear ho0)
          refine hK.out _ _ ⟨(blk_cell BK283.out 0).trans rfl, (blk_cell BK283.out 1).trans rfl, (blk_cell BK283.out 2).trans rfl⟩ (fun hHeld => ?_)
          clear hK K
          refine norm_ (a' := ?_) ?_ ?_
          rotate_left
          ·
           show Act.put _ (some 80) _ = _
           simp only [Act.put, List.setIfInBounds_toArray, List.set_cons_zero, List.set_cons_succ, i64_w, i32_w]
           rfl
          refine one_ (i := 15) (N := some 81) (bb 26 65535) rfl rfl (one_of HT_.out (by kernel_rfl)) (by decide) (fun K hK => ?_)
          have hcv77 := And.intro (own_string (P := Try.prog) Try.underlying23 Try.underlying5 Try.underlying9 (Kd.own_of_R HO301.out)) (fun n_ : Nat => own_string (P := Try.prog) Try.underlying23 Try.underlying5 Try.underlying9 (Kd.own_of_R (Kd.R_drewN HO301.out n_)))
          refine value_ (w1 := ?_) (v := ?_) (by rfl) rfl ?_ ?_
          rotate_left 2
          ·
           go_simp
           constructor
           ·
            rfl
           ·
            rfl
          clear hcv77
          refine hK.out _ _ ⟨(blk_cell BK283.out 0).trans rfl, (blk_cell BK283.out 1).trans rfl, (blk_cell BK283.out 2).trans rfl⟩ (fun hHeld => ?_)
          clear hK K
          refine norm_ (a' := ?_) ?_ ?_
          rotate_left
          ·
           show Act.put _ (some 81) _ = _
           simp only [Act.put, List.setIfInBounds_toArray, List.set_cons_zero, List.set_cons_succ, i64_w, i32_w]
           rfl
          exact norm_ (by simp only [putAll, Act.put, List.setIfInBounds_toArray, List.set_cons_zero, List.set_cons_succ]) (hCont (v300) _ ⟨hHeld, (by (with_reducible repeat (first | apply Kd.R_alloc | apply Kd.R_drewN | apply Kd.R_drew)); exact Kd.R_mono HO287.out (fun _ hk => ⟨hk.1.2, hk.2⟩)), (by (with_reducible repeat (first | apply Kd.R_alloc | apply Kd.R_drewN | apply Kd.R_drew)); exact Kd.R_mono HO291.out (fun _ hk => ⟨hk.1.2, hk.2⟩)), (by (with_reducible repeat (first | apply Kd.R_alloc | apply Kd.R_drewN | apply Kd.R_drew)); exact Kd.R_mono HO301.out (fun _ hk => ⟨hk.1.2, hk.2⟩)), (by (with_reducible repeat (first | refine blk_drewN ?_ _ | refine blk_drew ?_ | refine blk_alloc ?_ _)); exact BK283.out), (by repeat (first | (with_reducible first | exact HB.out | apply below_alloc | apply pw_below_drewN | apply below_drew1 | refine below_set ?_ GE283.out) | exact HB.out))⟩)
         ·
          skip
          refine goes_ Try.func62 (by kernel_rfl) rfl #[.int .u32 a0, .int .u32 a1, .agg #[.int .u16 a2_0, .int .u16 a2_1, .slice A2_2 l2_2.length c2_2]] (by rfl) rfl rfl (by (try simp only [List.map_toArray, List.map_cons, List.map_nil]); first | done | rfl | (simp only [List.length_drop, List.length_take]; rfl) | (go_simp; done) | (go_simp; omega)) ?_
          with_reducible refine (towroperef08_Check.calls kj4 a0 a1 a2_0 a2_1 _ _ l2_2 t298 _ ?side1 ?side2 A60.out).mono ?_
          (case side1 => repeat (first | exact (Kd.C_below HR2_2.out (by repeat (first | (with_reducible first | exact HB.out | apply below_alloc | apply pw_below_drewN | apply below_drew1 | refine below_set ?_ GE283.out) | exact HB.out))) | (with_reducible refine Kd.C_alloc ?_ _) | (with_reducible refine Kd.C_drewN ?_ _) | (with_reducible refine Kd.C_drew ?_)))
          (case side2 => exact HC2_2.out)
          rintro e w74 ⟨rfl, hb⟩
          refine ⟨_, rfl, ?_⟩
          have n0_ := Aside0.mk (Kd.R_below (by (with_reducible repeat (first | apply Kd.R_alloc | apply Kd.R_drewN | apply Kd.R_drew)); exact HO287.out) hb)
          have n1_ := Aside0.mk (Kd.R_below (by (with_reducible repeat (first | apply Kd.R_alloc | apply Kd.R_drewN | apply Kd.R_drew)); exact HO291.out) hb)
          have n2_ := Aside0.mk (blk_below (g := gb283) (o := .cells #[.int .u16 a2_0, .int .u16 a2_1, .slice A2_2 l2_2.length c2_2] 80 (0, 0)) (by (with_reducible repeat (first | refine blk_drewN ?_ _ | refine blk_drew ?_ | refine blk_alloc ?_ _)); exact BK283.out) hb)
          have n3_ := Aside0.mk (below_step (by repeat (first | (with_reducible first | exact HB.out | apply below_alloc | apply pw_below_drewN | apply below_drew1 | refine below_set ?_ GE283.out) | exact HB.out)) hb)
          clear HO287
          clear HO291
          clear BK283
          clear HB
          have HO287 := n0_
          have HO291 := n1_
          have BK283 := n2_
          have HB := n3_
          clear n0_ n1_ n2_ n3_
          (try clear hb)
          (try clear hb2)
          (try clear hk)
          (try clear hi)
          refine hK.out _ _ ⟨(blk_cell BK283.out 0).trans rfl, (blk_cell BK283.out 1).trans rfl, (blk_cell BK283.out 2).trans rfl⟩ (fun hHeld => ?_)
          clear hK K
          refine norm_ (a' := ?_) ?_ ?_
          rotate_left
          ·
           show Act.put _ (some 79) _ = _
           simp only [Act.put, List.setIfInBounds_toArray, List.set_cons_zero, List.set_cons_succ, i64_w, i32_w]
           rfl
          refine two_ (i := 8) (j := 14) (Ni := some 74) (Nj := some 80) (bb 26 16383) (bb 26 32511) rfl rfl rfl rfl (two_of HT_.out (by kernel_rfl)) (by decide) (by decide) (fun K hK => ?_) (fun K hK => ?_)
          ·
           skip
           have hcv75 := And.intro (own_string (P := Try.prog) Try.underlying23 Try.underlying5 Try.underlying9 (Kd.own_of_R HO287.out)) (fun n_ : Nat => own_string (P := Try.prog) Try.underlying23 Try.underlying5 Try.underlying9 (Kd.own_of_R (Kd.R_drewN HO287.out n_)))
           refine value_ (w1 := ?_) (v := ?_) (by rfl) rfl ?_ ?_
           rotate_left 2
           ·
            go_simp
            constructor
            ·
             rfl
            ·
             rfl
           clear hcv75
           refine hK.out _ _ ⟨(blk_cell BK283.out 0).trans rfl, (blk_cell BK283.out 1).trans rfl, (blk_cell BK283.out 2).trans rfl⟩ (fun hHeld => ?_)
           clear hK K
           refine norm_ (a' := ?_) ?_ ?_
           rotate_left
           ·
            show Act.put _ (some 74) _ = _
            simp only [Act.put, List.setIfInBounds_toArray, List.set_cons_zero, List.set_cons_succ, i64_w, i32_w]
            rfl
           refine one_ (i := 14) (N := some 80) (bb 26 32767) rfl rfl (one_of HT_.out (by kernel_rfl)) (by decide) (fun K hK => ?_)
           refine goes_ Try.func61 (by kernel_rfl) rfl #[.agg #[.int .u16 a2_0, .int .u16 a2_1, .slice A2_2 l2_2.length c2_2], .int .i64 t298] (by rfl) rfl rfl (by (try simp only [List.map_toArray, List.map_cons, List.map_nil]); first | done | rfl | (simp only [List.length_drop, List.length_take]; rfl) | (go_simp; done) | (go_simp; omega)) ?_
           with_reducible refine (towroperef08_Bytes.calls a2_0 a2_1 _ _ l2_2 t298 t299 _ ?side1 ?side2 A61.out).mono ?_
           (case side1 => repeat (first | exact (Kd.C_below HR2_2.out HB.out) | (with_reducible refine Kd.C_alloc ?_ _) | (with_reducible refine Kd.C_drewN ?_ _) | (with_reducible refine Kd.C_drew ?_)))
           (case side2 => exact HC2_2.out)
           rintro e w76 ⟨v300, rfl, ho0, hb⟩
           refine ⟨_, rfl, ?_⟩
           have n0_ := Aside0.mk (Kd.R_elder' (by (with_reducible repeat (first | apply Kd.R_alloc | apply Kd.R_drewN | apply Kd.R_drew)); exact HO287.out) (Kd.R_base ho0) hb)
           have n1_ := Aside0.mk (Kd.R_elder' (by (with_reducible repeat (first | apply Kd.R_alloc | apply Kd.R_drewN | apply Kd.R_drew)); exact HO291.out) (Kd.R_base ho0) hb)
           have n2_ := Aside0.mk (Kd.R_lower (Kd.R_new' (Kd.R_new' ho0 (Kd.R_lt (by (with_reducible repeat (first | apply Kd.R_alloc | apply Kd.R_drewN | apply Kd.R_drew)); exact HO287.out))) (Kd.R_lt (by (with_reducible repeat (first | apply Kd.R_alloc | apply Kd.R_drewN | apply Kd.R_drew)); exact HO291.out))) (below_size (by repeat (first | (with_reducible first | exact HB.out | apply below_alloc | apply pw_below_drewN | apply below_drew1 | refine below_set ?_ GE283.out) | exact HB.out))))
           have n3_ := Aside0.mk (blk_below (g := gb283) (o := .cells #[.int .u16 a2_0, .int .u16 a2_1, .slice A2_2 l2_2.length c2_2] 80 (0, 0)) (by (with_reducible repeat (first | refine blk_drewN ?_ _ | refine blk_drew ?_ | refine blk_alloc ?_ _)); exact BK283.out) hb)
           have n4_ := Aside0.mk (below_step (by repeat (first | (with_reducible first | exact HB.out | apply below_alloc | apply pw_below_drewN | apply below_drew1 | refine below_set ?_ GE283.out) | exact HB.out)) hb)
           clear HO287
           clear HO291
           clear BK283
           clear HB
           have HO287 := n0_
           have HO291 := n1_
           have HO301 := n2_
           have BK283 := n3_
           have HB := n4_
           clear n0_ n1_ n2_ n3_ n4_
           (try clear hb)
           (try clear hb2)
           (try clear hk)
           (try clear hi)
           (try clear ho0)
           refine hK.out _ _ ⟨(blk_cell BK283.out 0).trans rfl, (blk_cell BK283.out 1).trans rfl, (blk_cell BK283.out 2).trans rfl⟩ (fun hHeld => ?_)
           clear hK K
           refine norm_ (a' := ?_) ?_ ?_
           rotate_left
           ·
            show Act.put _ (some 80) _ = _
            simp only [Act.put, List.setIfInBounds_toArray, List.set_cons_zero, List.set_cons_succ, i64_w, i32_w]
            rfl
           refine one_ (i := 15) (N := some 81) (bb 26 65535) rfl rfl (one_of HT_.out (by kernel_rfl)) (by decide) (fun K hK => ?_)
           have hcv77 := And.intro (own_string (P := Try.prog) Try.underlying23 Try.underlying5 Try.underlying9 (Kd.own_of_R HO301.out)) (fun n_ : Nat => own_string (P := Try.prog) Try.underlying23 Try.underlying5 Try.underlying9 (Kd.own_of_R (Kd.R_drewN HO301.out n_)))
           refine value_ (w1 := ?_) (v := ?_) (by rfl) rfl ?_ ?_
           rotate_left 2
           ·
            go_simp
            constructor
            ·
             rfl
            ·
             rfl
           clear hcv77
           refine hK.out _ _ ⟨(blk_cell BK283.out 0).trans rfl, (blk_cell BK283.out 1).trans rfl, (blk_cell BK283.out 2).trans rfl⟩ (fun hHeld => ?_)
           clear hK K
           refine norm_ (a' := ?_) ?_ ?_
           rotate_left
           ·
            show Act.put _ (some 81) _ = _
            simp only [Act.put, List.setIfInBounds_toArray, List.set_cons_zero, List.set_cons_succ, i64_w, i32_w]
            rfl
           exact norm_ (by simp only [putAll, Act.put, List.setIfInBounds_toArray, List.set_cons_zero, List.set_cons_succ]) (hCont (v300) _ ⟨hHeld, (by (with_reducible repeat (first | apply Kd.R_alloc | apply Kd.R_drewN | apply Kd.R_drew)); exact Kd.R_mono HO287.out (fun _ hk => ⟨hk.1.2, hk.2⟩)), (by (with_reducible repeat (first | apply Kd.R_alloc | apply Kd.R_drewN | apply Kd.R_drew)); exact Kd.R_mono HO291.out (fun _ hk => ⟨hk.1.2, hk.2⟩)), (by (with_reducible repeat (first | apply Kd.R_alloc | apply Kd.R_drewN | apply Kd.R_drew)); exact Kd.R_mono HO301.out (fun _ hk => ⟨hk.1.2, hk.2⟩)), (by (with_reducible repeat (first | refine blk_drewN ?_ _ | refine blk_drew ?_ | refine blk_alloc ?_ _)); exact BK283.out), (by repeat (first | (with_reducible first | exact HB.out | apply below_alloc | apply pw_below_drewN | apply below_drew1 | refine below_set ?_ GE283.out) | exact HB.out))⟩)
          ·
           skip
           refine goes_ Try.func61 (by kernel_rfl) rfl #[.agg #[.int .u16 a2_0, .int .u16 a2_1, .slice A2_2 l2_2.length c2_2], .int .i64 t298] (by rfl) rfl rfl (by (try simp only [List.map_toArray, List.map_cons, List.map_nil]); first | done | rfl | (simp only [List.length_drop, List.length_take]; rfl) | (go_simp; done) | (go_simp; omega)) ?_
           with_reducible refine (towroperef08_Bytes.calls a2_0 a2_1 _ _ l2_2 t298 t299 _ ?side1 ?side2 A61.out).mono ?_
           (case side1 => repeat (first | exact (Kd.C_below HR2_2.out HB.out) | (with_reducible refine Kd.C_alloc ?_ _) | (with_reducible refine Kd.C_drewN ?_ _) | (with_reducible refine Kd.C_drew ?_)))
           (case side2 => exact HC2_2.out)
           rintro e w75 ⟨v300, rfl, ho0, hb⟩
           refine ⟨_, rfl, ?_⟩
           have n0_ := Aside0.mk (Kd.R_elder' (by (with_reducible repeat (first | apply Kd.R_alloc | apply Kd.R_drewN | apply Kd.R_drew)); exact HO287.out) (Kd.R_base ho0) hb)
           have n1_ := Aside0.mk (Kd.R_elder' (by (with_reducible repeat (first | apply Kd.R_alloc | apply Kd.R_drewN | apply Kd.R_drew)); exact HO291.out) (Kd.R_base ho0) hb)
           have n2_ := Aside0.mk (Kd.R_lower (Kd.R_new' (Kd.R_new' ho0 (Kd.R_lt (by (with_reducible repeat (first | apply Kd.R_alloc | apply Kd.R_drewN | apply Kd.R_drew)); exact HO287.out))) (Kd.R_lt (by (with_reducible repeat (first | apply Kd.R_alloc | apply Kd.R_drewN | apply Kd.R_drew)); exact HO291.out))) (below_size (by repeat (first | (with_reducible first | exact HB.out | apply below_alloc | apply pw_below_drewN | apply below_drew1 | refine below_set ?_ GE283.out) | exact HB.out))))
           have n3_ := Aside0.mk (blk_below (g := gb283) (o := .cells #[.int .u16 a2_0, .int .u16 a2_1, .slice A2_2 l2_2.length c2_2] 80 (0, 0)) (by (with_reducible repeat (first | refine blk_drewN ?_ _ | refine blk_drew ?_ | refine blk_alloc ?_ _)); exact BK283.out) hb)
           have n4_ := Aside0.mk (below_step (by repeat (first | (with_reducible first | exact HB.out | apply below_alloc | apply pw_below_drewN | apply below_drew1 | refine below_set ?_ GE283.out) | exact HB.out)) hb)
           clear HO287
           clear HO291
           clear BK283
           clear HB
           have HO287 := n0_
           have HO291 := n1_
           have HO301 := n2_
           have BK283 := n3_
           have HB := n4_
           clear n0_ n1_ n2_ n3_ n4_
           (try clear hb)
           (try clear hb2)
           (try clear hk)
           (try clear hi)
           (try clear ho0)
           refine hK.out _ _ ⟨(blk_cell BK283.out 0).trans rfl, (blk_cell BK283.out 1).trans rfl, (blk_cell BK283.out 2).trans rfl⟩ (fun hHeld => ?_)
           clear hK K
           refine norm_ (a' := ?_) ?_ ?_
           rotate_left
           ·
            show Act.put _ (some 80) _ = _
            simp only [Act.put, List.setIfInBounds_toArray, List.set_cons_zero, List.set_cons_succ, i64_w, i32_w]
            rfl
           refine two_ (i := 8) (j := 15) (Ni := some 74) (Nj := some 81) (bb 26 32767) (bb 26 65279) rfl rfl rfl rfl (two_of HT_.out (by kernel_rfl)) (by decide) (by decide) (fun K hK => ?_) (fun K hK => ?_)
           ·
            skip
            have hcv76 := And.intro (own_string (P := Try.prog) Try.underlying23 Try.underlying5 Try.underlying9 (Kd.own_of_R HO287.out)) (fun n_ : Nat => own_string (P := Try.prog) Try.underlying23 Try.underlying5 Try.underlying9 (Kd.own_of_R (Kd.R_drewN HO287.out n_)))
            refine value_ (w1 := ?_) (v := ?_) (by rfl) rfl ?_ ?_
            rotate_left 2
            ·
             go_simp
             constructor
             ·
              rfl
             ·
              rfl
            clear hcv76
            refine hK.out _ _ ⟨(blk_cell BK283.out 0).trans rfl, (blk_cell BK283.out 1).trans rfl, (blk_cell BK283.out 2).trans rfl⟩ (fun hHeld => ?_)
            clear hK K
            refine norm_ (a' := ?_) ?_ ?_
            rotate_left
            ·
             show Act.put _ (some 74) _ = _
             simp only [Act.put, List.setIfInBounds_toArray, List.set_cons_zero, List.set_cons_succ, i64_w, i32_w]
             rfl
            refine one_ (i := 15) (N := some 81) (bb 26 65535) rfl rfl (one_of HT_.out (by kernel_rfl)) (by decide) (fun K hK => ?_)
            have hcv77 := And.intro (own_string (P := Try.prog) Try.underlying23 Try.underlying5 Try.underlying9 (Kd.own_of_R HO301.out)) (fun n_ : Nat => own_string (P := Try.prog) Try.underlying23 Try.underlying5 Try.underlying9 (Kd.own_of_R (Kd.R_drewN HO301.out n_)))
            refine value_ (w1 := ?_) (v := ?_) (by rfl) rfl ?_ ?_
            rotate_left 2
            ·
             go_simp
             constructor
             ·
              rfl
             ·
              rfl
            clear hcv77
            refine hK.out _ _ ⟨(blk_cell BK283.out 0).trans rfl, (blk_cell BK283.out 1).trans rfl, (blk_cell BK283.out 2).trans rfl⟩ (fun hHeld => ?_)
            clear hK K
            refine norm_ (a' := ?_) ?_ ?_
            rotate_left
            ·
             show Act.put _ (some 81) _ = _
             simp only [Act.put, List.setIfInBounds_toArray, List.set_cons_zero, List.set_cons_succ, i64_w, i32_w]
             rfl
            exact norm_ (by simp only [putAll, Act.put, List.setIfInBounds_toArray, List.set_cons_zero, List.set_cons_succ]) (hCont (v300) _ ⟨hHeld, (by (with_reducible repeat (first | apply Kd.R_alloc | apply Kd.R_drewN | apply Kd.R_drew)); exact Kd.R_mono HO287.out (fun _ hk => ⟨hk.1.2, hk.2⟩)), (by (with_reducible repeat (first | apply Kd.R_alloc | apply Kd.R_drewN | apply Kd.R_drew)); exact Kd.R_mono HO291.out (fun _ hk => ⟨hk.1.2, hk.2⟩)), (by (with_reducible repeat (first | apply Kd.R_alloc | apply Kd.R_drewN | apply Kd.R_drew)); exact Kd.R_mono HO301.out (fun _ hk => ⟨hk.1.2, hk.2⟩)), (by (with_reducible repeat (first | refine blk_drewN ?_ _ | refine blk_drew ?_ | refine blk_alloc ?_ _)); exact BK283.out), (by repeat (first | (with_reducible first | exact HB.out | apply below_alloc | apply pw_below_drewN | apply below_drew1 | refine below_set ?_ GE283.out) | exact HB.out))⟩)
           ·
            skip
            have hcv76 := And.intro (own_string (P := Try.prog) Try.underlying23 Try.underlying5 Try.underlying9 (Kd.own_of_R HO301.out)) (fun n_ : Nat => own_string (P := Try.prog) Try.underlying23 Try.underlying5 Try.underlying9 (Kd.own_of_R (Kd.R_drewN HO301.out n_)))
            refine value_ (w1 := ?_) (v := ?_) (by rfl) rfl ?_ ?_
            rotate_left 2
            ·
             go_simp
             constructor
             ·
              rfl
             ·
              rfl
            clear hcv76
            refine hK.out _ _ ⟨(blk_cell BK283.out 0).trans rfl, (blk_cell BK283.out 1).trans rfl, (blk_cell BK283.out 2).trans rfl⟩ (fun hHeld => ?_)
            clear hK K
            refine norm_ (a' := ?_) ?_ ?_
            rotate_left
            ·
             show Act.put _ (some 81) _ = _
             simp only [Act.put, List.setIfInBounds_toArray, List.set_cons_zero, List.set_cons_succ, i64_w, i32_w]
             rfl
            refine one_ (i := 8) (N := some 74) (bb 26 65535) rfl rfl (one_of HT_.out (by kernel_rfl)) (by decide) (fun K hK => ?_)
            have hcv77 := And.intro (own_string (P := Try.prog) Try.underlying23 Try.underlying5 Try.underlying9 (Kd.own_of_R HO287.out)) (fun n_ : Nat => own_string (P := Try.prog) Try.underlying23 Try.underlying5 Try.underlying9 (Kd.own_of_R (Kd.R_drewN HO287.out n_)))
            refine value_ (w1 := ?_) (v := ?_) (by rfl) rfl ?_ ?_
            rotate_left 2
            ·
             go_simp
             constructor
             ·
              rfl
             ·
              rfl
            clear hcv77
            refine hK.out _ _ ⟨(blk_cell BK283.out 0).trans rfl, (blk_cell BK283.out 1).trans rfl, (blk_cell BK283.out 2).trans rfl⟩ (fun hHeld => ?_)
            clear hK K
            refine norm_ (a' := ?_) ?_ ?_
            rotate_left
            ·
             show Act.put _ (some 74) _ = _
             simp only [Act.put, List.setIfInBounds_toArray, List.set_cons_zero, List.set_cons_succ, i64_w, i32_w]
             rfl
            exact norm_ (by simp only [putAll, Act.put, List.setIfInBounds_toArray, List.set_cons_zero, List.set_cons_succ]) (hCont (v300) _ ⟨hHeld, (by (with_reducible repeat (first | apply Kd.R_alloc | apply Kd.R_drewN | apply Kd.R_drew)); exact Kd.R_mono HO287.out (fun _ hk => ⟨hk.1.2, hk.2⟩)), (by (with_reducible repeat (first | apply Kd.R_alloc | apply Kd.R_drewN | apply Kd.R_drew)); exact Kd.R_mono HO291.out (fun _ hk => ⟨hk.1.2, hk.2⟩)), (by (with_reducible repeat (first | apply Kd.R_alloc | apply Kd.R_drewN | apply Kd.R_drew)); exact Kd.R_mono HO301.out (fun _ hk => ⟨hk.1.2, hk.2⟩)), (by (with_reducible repeat (first | refine blk_drewN ?_ _ | refine blk_drew ?_ | refine blk_alloc ?_ _)); exact BK283.out), (by repeat (first | (with_reducible first | exact HB.out | apply below_alloc | apply pw_below_drewN | apply below_drew1 | refine below_set ?_ GE283.out) | exact HB.out))⟩)
        rintro v300 w78 ⟨hS_, h0_, h1_, h2_, h3_, h4_⟩
        have n0_ : Aside0 (Kd.R (Kd.int .u8) 5 w78 w.heap.size (fun k_ => some k_ ≠ (v290 : Value).ownBlock ∧ some k_ ≠ (v300 : Value).ownBlock) v286 t285) := ⟨h0_⟩
        have n1_ : Aside0 (Kd.R (Kd.int .u8) 5 w78 w.heap.size (fun k_ => some k_ ≠ (v286 : Value).ownBlock ∧ some k_ ≠ (v300 : Value).ownBlock) v290 t289) := ⟨h1_⟩
        have n2_ : Aside0 (Kd.R (Kd.int .u8) 5 w78 w.heap.size (fun k_ => some k_ ≠ (v286 : Value).ownBlock ∧ some k_ ≠ (v290 : Value).ownBlock) v300 t299) := ⟨h2_⟩
        have n3_ : Aside0 (w78.heap[gb283]? = some (.cells #[.int .u16 a2_0, .int .u16 a2_1, .slice A2_2 l2_2.length c2_2] 80 (0, 0))) := ⟨h3_⟩
        have n4_ : Aside0 (Below w.heap.size w w78) := ⟨h4_⟩
        clear HO287
        clear HO291
        clear BK283
        clear HB
        clear h0_ h1_ h2_ h3_ h4_
        have HO287 := n0_
        have HO291 := n1_
        have HO301 := n2_
        have BK283 := n3_
        have HB := n4_
        clear n0_ n1_ n2_ n3_ n4_
        have hHeld : w78.cell? ⟨gb283, 0, none⟩ = some (.int .u16 a2_0) ∧ w78.cell? ⟨gb283, 1, none⟩ = some (.int .u16 a2_1) ∧ w78.cell? ⟨gb283, 2, none⟩ = some (.slice A2_2 l2_2.length c2_2) := hS_
        refine norm_ (a' := ?_) ?_ ?_
        rotate_left
        ·
         simp only [putAll, Act.put, List.setIfInBounds_toArray, List.set_cons_zero, List.set_cons_succ]
         rfl
        refine pure_ (i := 16) (N := some 82) (v := ?_) (a' := ?_) (bb 26 131071) rfl rfl (any_of HT_.out (by kernel_rfl)) (fun _ _ _ h => h) (Or.inl ⟨by rfl, ?_⟩) ?_ ?_
        rotate_left
        ·
         intro w'
         go_simp
         with_reducible rfl
        rotate_left
        ·
         simp only [Act.put, List.setIfInBounds_toArray, List.set_cons_zero, List.set_cons_succ, i64_w, i32_w]
         rfl
        refine pure_ (i := 17) (N := some 83) (v := ?_) (a' := ?_) (bb 26 262143) rfl rfl (any_of HT_.out (by kernel_rfl)) (fun _ _ _ h => h) (Or.inl ⟨by rfl, ?_⟩) ?_ ?_
        rotate_left
        ·
         intro w'
         go_simp
         with_reducible rfl
        rotate_left
        ·
         simp only [Act.put, List.setIfInBounds_toArray, List.set_cons_zero, List.set_cons_succ, i64_w, i32_w]
         rfl
        refine pure_ (i := 18) (N := some 84) (v := ?_) (a' := ?_) (bb 26 524287) rfl rfl (any_of HT_.out (by kernel_rfl)) (fun _ _ _ h => h) (Or.inl ⟨by rfl, ?_⟩) ?_ ?_
        rotate_left
        ·
         intro w'
         go_simp
         with_reducible rfl
        rotate_left
        ·
         simp only [Act.put, List.setIfInBounds_toArray, List.set_cons_zero, List.set_cons_succ, i64_w, i32_w]
         rfl
        refine pure_ (i := 19) (N := some 85) (v := undef) (a' := ?_) (bb 26 1048575) rfl rfl (any_of HT_.out (by kernel_rfl)) (fun _ _ _ h => h) (Or.inr ⟨by rfl, rfl⟩) ?_ ?_
        rotate_left
        ·
         simp only [Act.put, List.setIfInBounds_toArray, List.set_cons_zero, List.set_cons_succ, i64_w, i32_w]
         rfl
        refine pure_ (i := 20) (N := some 86) (v := undef) (a' := ?_) (bb 26 2097151) rfl rfl (any_of HT_.out (by kernel_rfl)) (fun _ _ _ h => h) (Or.inr ⟨by rfl, rfl⟩) ?_ ?_
        rotate_left
        ·
         simp only [Act.put, List.setIfInBounds_toArray, List.set_cons_zero, List.set_cons_succ, i64_w, i32_w]
         rfl
        refine pure_ (i := 21) (N := some 87) (v := undef) (a' := ?_) (bb 26 4194303) rfl rfl (any_of HT_.out (by kernel_rfl)) (fun _ _ _ h => h) (Or.inr ⟨by rfl, rfl⟩) ?_ ?_
        rotate_left
        ·
         simp only [Act.put, List.setIfInBounds_toArray, List.set_cons_zero, List.set_cons_succ, i64_w, i32_w]
         rfl
        refine pure_ (i := 22) (N := some 88) (v := undef) (a' := ?_) (bb 26 8388607) rfl rfl (any_of HT_.out (by kernel_rfl)) (fun _ _ _ h => h) (Or.inr ⟨by rfl, rfl⟩) ?_ ?_
        rotate_left
        ·
         simp only [Act.put, List.setIfInBounds_toArray, List.set_cons_zero, List.set_cons_succ, i64_w, i32_w]
         rfl
        refine pure_ (i := 23) (N := some 89) (v := undef) (a' := ?_) (bb 26 16777215) rfl rfl (any_of HT_.out (by kernel_rfl)) (fun _ _ _ h => h) (Or.inr ⟨by rfl, rfl⟩) ?_ ?_
        rotate_left
        ·
         simp only [Act.put, List.setIfInBounds_toArray, List.set_cons_zero, List.set_cons_succ, i64_w, i32_w]
         rfl
        refine pure_ (i := 24) (N := some 90) (v := undef) (a' := ?_) (bb 26 33554431) rfl rfl (any_of HT_.out (by kernel_rfl)) (fun _ _ _ h => h) (Or.inr ⟨by rfl, rfl⟩) ?_ ?_
        rotate_left
        ·
         simp only [Act.put, List.setIfInBounds_toArray, List.set_cons_zero, List.set_cons_succ, i64_w, i32_w]
         rfl
        refine pure_ (i := 25) (N := some 91) (v := ?_) (a' := ?_) (bb 26 67108863) rfl rfl (any_of HT_.out (by kernel_rfl)) (fun _ _ _ h => h) (Or.inl ⟨by rfl, ?_⟩) ?_ ?_
        rotate_left
        ·
         intro w'
         go_simp
         with_reducible rfl
        rotate_left
        ·
         simp only [Act.put, List.setIfInBounds_toArray, List.set_cons_zero, List.set_cons_succ, i64_w, i32_w]
         rfl
        refine done_ (done_of HT_.out (by kernel_rfl)) ?_
        try go_wp2
        go_meet
        case rel => exact ⟨_, (true), (by first | rfl | (simp; done) | (simp [*]; done)), H', ⟨by have := HJ4.out; first | omega | exact Nat.le_refl _⟩, ⟨by (with_reducible repeat (first | apply Kd.R_alloc | apply Kd.R_drewN | apply Kd.R_drew)); exact Kd.R_mono HO287.out (fun _ hk => hk.1)⟩, ⟨by (with_reducible repeat (first | apply Kd.R_alloc | apply Kd.R_drewN | apply Kd.R_drew)); exact Kd.R_mono HO291.out (fun _ hk => hk.1)⟩, ⟨by (with_reducible repeat (first | refine blk_drewN ?_ _ | refine blk_drew ?_ | refine blk_alloc ?_ _)); exact BK283.out⟩, ⟨by repeat (first | (with_reducible first | exact HB.out | apply below_alloc | apply pw_below_drewN | apply below_drew1 | refine below_set ?_ GE283.out) | exact HB.out)⟩⟩
      ·
       rw [if_neg c59] at H
       have c59b0 : ((wrap64 (t296 + t297)) == 0) = false := beq_eq_false_iff_ne.mpr c59
       have c59b1 : ((wrap64 (t296 + t297)) != 0) = true := bne_iff_ne.mpr c59
       (first | rw [c59b0] | (simp only [i64_w, i32_w]; rw [c59b0]) | skip)
       have H' := Aside0.mk H
       clear H
       try go_wp2
       have n0_ := Aside0.mk (Kd.R_drew HO287.out)
       have n1_ := Aside0.mk (Kd.R_drew HO291.out)
       have n2_ := Aside0.mk (blk_drew BK283.out)
       have n3_ := Aside0.mk (below_drew1 HB.out)
       clear HO287
       clear HO291
       clear BK283
       clear HB
       have HO287 := n0_
       have HO291 := n1_
       have BK283 := n2_
       have HB := n3_
       clear n0_ n1_ n2_ n3_
       refine start_ (n := 26) (S := fun w' => True) (ds := []) (bb 26 0) (by kernel_rfl) rfl rfl trivial (fun hHeld => ?_); refine with_tabW towropelaw08_GramPuts.tab8 towropelaw08_GramPuts.bits8 (fun HT_ HW_ => ?_)
       generalize w55.drew = w79 at HO287 HO291 BK283 HB hHeld ⊢
       refine pure_ (i := 0) (N := some 66) (v := ?_) (a' := ?_) (bb 26 1) rfl rfl (any_of HT_.out (by kernel_rfl)) (fun _ _ _ h => h) (Or.inl ⟨by rfl, ?_⟩) ?_ ?_
       rotate_left
       ·
        intro w'
        go_simp
        with_reducible rfl
       rotate_left
       ·
        simp only [Act.put, List.setIfInBounds_toArray, List.set_cons_zero, List.set_cons_succ, i64_w, i32_w]
        rfl
       refine pure_ (i := 2) (N := some 68) (v := ?_) (a' := ?_) (bb 26 5) rfl rfl (any_of HT_.out (by kernel_rfl)) (fun _ _ _ h => h) (Or.inl ⟨by rfl, ?_⟩) ?_ ?_
       rotate_left
       ·
        intro w'
        go_simp
        with_reducible rfl
       rotate_left
       ·
        simp only [Act.put, List.setIfInBounds_toArray, List.set_cons_zero, List.set_cons_succ, i64_w, i32_w]
        rfl
       refine one_ (i := 1) (N := some 67) (bb 26 7) rfl rfl (one_of HT_.out (by kernel_rfl)) (by decide) (fun K hK => ?_)
       refine goes_ Try.func49 (by kernel_rfl) rfl #[.int .i64 t288] (by rfl) rfl rfl (by (try simp only [List.map_toArray, List.map_cons, List.map_nil]); first | done | rfl | (simp only [List.length_drop, List.length_take]; rfl) | (go_simp; done) | (go_simp; omega)) ?_
       with_reducible refine (towropelaw08_code.calls t288 t296 _ A57.out).mono ?_
       rintro e w' ⟨rfl, ⟨nd, rfl⟩⟩
       refine ⟨_, rfl, ?_⟩
       refine hK.out _ _ trivial (fun hHeld => ?_)
       clear hK K
       refine norm_ (a' := ?_) ?_ ?_
       rotate_left
       ·
        show Act.put _ (some 67) _ = _
        simp only [Act.put, List.setIfInBounds_toArray, List.set_cons_zero, List.set_cons_succ, i64_w, i32_w]
        rfl
       refine one_ (i := 3) (N := some 69) (bb 26 15) rfl rfl (one_of HT_.out (by kernel_rfl)) (by decide) (fun K hK => ?_)
       refine goes_ Try.func49 (by kernel_rfl) rfl #[.int .i64 t292] (by rfl) rfl rfl (by (try simp only [List.map_toArray, List.map_cons, List.map_nil]); first | done | rfl | (simp only [List.length_drop, List.length_take]; rfl) | (go_simp; done) | (go_simp; omega)) ?_
       with_reducible refine (towropelaw08_code.calls t292 t297 _ A58.out).mono ?_
       rintro e w' ⟨rfl, ⟨nd, rfl⟩⟩
       refine ⟨_, rfl, ?_⟩
       refine hK.out _ _ trivial (fun hHeld => ?_)
       clear hK K
       refine norm_ (a' := ?_) ?_ ?_
       rotate_left
       ·
        show Act.put _ (some 69) _ = _
        simp only [Act.put, List.setIfInBounds_toArray, List.set_cons_zero, List.set_cons_succ, i64_w, i32_w]
        rfl
       refine pure_ (i := 4) (N := some 70) (v := ?_) (a' := ?_) (bb 26 31) rfl rfl (any_of HT_.out (by kernel_rfl)) (fun _ _ _ h => h) (Or.inl ⟨by rfl, ?_⟩) ?_ ?_
       rotate_left
       ·
        intro w'
        go_simp
        with_reducible rfl
       rotate_left
       ·
        simp only [Act.put, List.setIfInBounds_toArray, List.set_cons_zero, List.set_cons_succ, i64_w, i32_w]
        rfl
       refine pure_ (i := 5) (N := some 71) (v := ?_) (a' := ?_) (bb 26 63) rfl rfl (any_of HT_.out (by kernel_rfl)) (fun _ _ _ h => h) (Or.inl ⟨by rfl, ?_⟩) ?_ ?_
       rotate_left
       ·
        intro w'
        go_simp
        with_reducible rfl
       rotate_left
       ·
        simp only [Act.put, List.setIfInBounds_toArray, List.set_cons_zero, List.set_cons_succ, i64_w, i32_w]
        rfl
       refine pure_ (i := 6) (N := some 72) (v := ?_) (a' := ?_) (bb 26 127) rfl rfl (any_of HT_.out (by kernel_rfl)) (fun _ _ _ h => h) (Or.inl ⟨by rfl, ?_⟩) ?_ ?_
       rotate_left
       ·
        intro w'
        go_simp
        with_reducible rfl
       rotate_left
       ·
        simp only [Act.put, List.setIfInBounds_toArray, List.set_cons_zero, List.set_cons_succ, i64_w, i32_w]
        rfl
       refine pure_ (i := 7) (N := some 73) (v := undef) (a' := ?_) (bb 26 255) rfl rfl (any_of HT_.out (by kernel_rfl)) (fun _ _ _ h => h) (Or.inr ⟨by rfl, rfl⟩) ?_ ?_
       rotate_left
       ·
        simp only [Act.put, List.setIfInBounds_toArray, List.set_cons_zero, List.set_cons_succ, i64_w, i32_w]
        rfl
       refine pure_ (i := 8) (N := some 74) (v := undef) (a' := ?_) (bb 26 511) rfl rfl (any_of HT_.out (by kernel_rfl)) (fun _ _ _ h => h) (Or.inr ⟨by rfl, rfl⟩) ?_ ?_
       rotate_left
       ·
        simp only [Act.put, List.setIfInBounds_toArray, List.set_cons_zero, List.set_cons_succ, i64_w, i32_w]
        rfl
       refine pure_ (i := 9) (N := some 75) (v := undef) (a' := ?_) (bb 26 1023) rfl rfl (any_of HT_.out (by kernel_rfl)) (fun _ _ _ h => h) (Or.inr ⟨by rfl, rfl⟩) ?_ ?_
       rotate_left
       ·
        simp only [Act.put, List.setIfInBounds_toArray, List.set_cons_zero, List.set_cons_succ, i64_w, i32_w]
        rfl
       refine pure_ (i := 10) (N := some 76) (v := undef) (a' := ?_) (bb 26 2047) rfl rfl (any_of HT_.out (by kernel_rfl)) (fun _ _ _ h => h) (Or.inr ⟨by rfl, rfl⟩) ?_ ?_
       rotate_left
       ·
        simp only [Act.put, List.setIfInBounds_toArray, List.set_cons_zero, List.set_cons_succ, i64_w, i32_w]
        rfl
       refine pure_ (i := 11) (N := some 77) (v := undef) (a' := ?_) (bb 26 4095) rfl rfl (any_of HT_.out (by kernel_rfl)) (fun _ _ _ h => h) (Or.inr ⟨by rfl, rfl⟩) ?_ ?_
       rotate_left
       ·
        simp only [Act.put, List.setIfInBounds_toArray, List.set_cons_zero, List.set_cons_succ, i64_w, i32_w]
        rfl
       refine pure_ (i := 12) (N := some 78) (v := undef) (a' := ?_) (bb 26 8191) rfl rfl (any_of HT_.out (by kernel_rfl)) (fun _ _ _ h => h) (Or.inr ⟨by rfl, rfl⟩) ?_ ?_
       rotate_left
       ·
        simp only [Act.put, List.setIfInBounds_toArray, List.set_cons_zero, List.set_cons_succ, i64_w, i32_w]
        rfl
       refine pure_ (i := 13) (N := some 79) (v := undef) (a' := ?_) (bb 26 16383) rfl rfl (any_of HT_.out (by kernel_rfl)) (fun _ _ _ h => h) (Or.inr ⟨by rfl, rfl⟩) ?_ ?_
       rotate_left
       ·
        simp only [Act.put, List.setIfInBounds_toArray, List.set_cons_zero, List.set_cons_succ, i64_w, i32_w]
        rfl
       refine pure_ (i := 14) (N := some 80) (v := undef) (a' := ?_) (bb 26 32767) rfl rfl (any_of HT_.out (by kernel_rfl)) (fun _ _ _ h => h) (Or.inr ⟨by rfl, rfl⟩) ?_ ?_
       rotate_left
       ·
        simp only [Act.put, List.setIfInBounds_toArray, List.set_cons_zero, List.set_cons_succ, i64_w, i32_w]
        rfl
       refine pure_ (i := 15) (N := some 81) (v := undef) (a' := ?_) (bb 26 65535) rfl rfl (any_of HT_.out (by kernel_rfl)) (fun _ _ _ h => h) (Or.inr ⟨by rfl, rfl⟩) ?_ ?_
       rotate_left
       ·
        simp only [Act.put, List.setIfInBounds_toArray, List.set_cons_zero, List.set_cons_succ, i64_w, i32_w]
        rfl
       refine pure_ (i := 16) (N := some 82) (v := undef) (a' := ?_) (bb 26 131071) rfl rfl (any_of HT_.out (by kernel_rfl)) (fun _ _ _ h => h) (Or.inr ⟨by rfl, rfl⟩) ?_ ?_
       rotate_left
       ·
        simp only [Act.put, List.setIfInBounds_toArray, List.set_cons_zero, List.set_cons_succ, i64_w, i32_w]
        rfl
       refine pure_ (i := 17) (N := some 83) (v := ?_) (a' := ?_) (bb 26 262143) rfl rfl (any_of HT_.out (by kernel_rfl)) (fun _ _ _ h => h) (Or.inl ⟨by rfl, ?_⟩) ?_ ?_
       rotate_left
       ·
        intro w'
        go_simp
        with_reducible rfl
       rotate_left
       ·
        simp only [Act.put, List.setIfInBounds_toArray, List.set_cons_zero, List.set_cons_succ, i64_w, i32_w]
        rfl
       refine pure_ (i := 18) (N := some 84) (v := ?_) (a' := ?_) (bb 26 524287) rfl rfl (any_of HT_.out (by kernel_rfl)) (fun _ _ _ h => h) (Or.inl ⟨by rfl, ?_⟩) ?_ ?_
       rotate_left
       ·
        intro w'
        go_simp
        with_reducible rfl
       rotate_left
       ·
        simp only [Act.put, List.setIfInBounds_toArray, List.set_cons_zero, List.set_cons_succ, i64_w, i32_w]
        rfl
       refine pure_ (i := 19) (N := some 85) (v := undef) (a' := ?_) (bb 26 1048575) rfl rfl (any_of HT_.out (by kernel_rfl)) (fun _ _ _ h => h) (Or.inr ⟨by rfl, rfl⟩) ?_ ?_
       rotate_left
       ·
        simp only [Act.put, List.setIfInBounds_toArray, List.set_cons_zero, List.set_cons_succ, i64_w, i32_w]
        rfl
       refine pure_ (i := 20) (N := some 86) (v := undef) (a' := ?_) (bb 26 2097151) rfl rfl (any_of HT_.out (by kernel_rfl)) (fun _ _ _ h => h) (Or.inr ⟨by rfl, rfl⟩) ?_ ?_
       rotate_left
       ·
        simp only [Act.put, List.setIfInBounds_toArray, List.set_cons_zero, List.set_cons_succ, i64_w, i32_w]
        rfl
       refine pure_ (i := 21) (N := some 87) (v := undef) (a' := ?_) (bb 26 4194303) rfl rfl (any_of HT_.out (by kernel_rfl)) (fun _ _ _ h => h) (Or.inr ⟨by rfl, rfl⟩) ?_ ?_
       rotate_left
       ·
        simp only [Act.put, List.setIfInBounds_toArray, List.set_cons_zero, List.set_cons_succ, i64_w, i32_w]
        rfl
       refine pure_ (i := 22) (N := some 88) (v := undef) (a' := ?_) (bb 26 8388607) rfl rfl (any_of HT_.out (by kernel_rfl)) (fun _ _ _ h => h) (Or.inr ⟨by rfl, rfl⟩) ?_ ?_
       rotate_left
       ·
        simp only [Act.put, List.setIfInBounds_toArray, List.set_cons_zero, List.set_cons_succ, i64_w, i32_w]
        rfl
       refine pure_ (i := 23) (N := some 89) (v := undef) (a' := ?_) (bb 26 16777215) rfl rfl (any_of HT_.out (by kernel_rfl)) (fun _ _ _ h => h) (Or.inr ⟨by rfl, rfl⟩) ?_ ?_
       rotate_left
       ·
        simp only [Act.put, List.setIfInBounds_toArray, List.set_cons_zero, List.set_cons_succ, i64_w, i32_w]
        rfl
       refine pure_ (i := 24) (N := some 90) (v := undef) (a' := ?_) (bb 26 33554431) rfl rfl (any_of HT_.out (by kernel_rfl)) (fun _ _ _ h => h) (Or.inr ⟨by rfl, rfl⟩) ?_ ?_
       rotate_left
       ·
        simp only [Act.put, List.setIfInBounds_toArray, List.set_cons_zero, List.set_cons_succ, i64_w, i32_w]
        rfl
       refine pure_ (i := 25) (N := some 91) (v := ?_) (a' := ?_) (bb 26 67108863) rfl rfl (any_of HT_.out (by kernel_rfl)) (fun _ _ _ h => h) (Or.inl ⟨by rfl, ?_⟩) ?_ ?_
       rotate_left
       ·
        intro w'
        go_simp
        with_reducible rfl
       rotate_left
       ·
        simp only [Act.put, List.setIfInBounds_toArray, List.set_cons_zero, List.set_cons_succ, i64_w, i32_w]
        rfl
       refine done_ (done_of HT_.out (by kernel_rfl)) ?_
       try go_wp2
       go_meet
       case rel => exact ⟨_, (true), (by first | rfl | (simp; done) | (simp [*]; done)), H', ⟨by have := HJ4.out; first | omega | exact Nat.le_refl _⟩, ⟨by (with_reducible repeat (first | apply Kd.R_alloc | apply Kd.R_drewN | apply Kd.R_drew)); exact Kd.R_mono HO287.out (fun _ hk => hk.2)⟩, ⟨by (with_reducible repeat (first | apply Kd.R_alloc | apply Kd.R_drewN | apply Kd.R_drew)); exact Kd.R_mono HO291.out (fun _ hk => hk.2)⟩, ⟨by (with_reducible repeat (first | refine blk_drewN ?_ _ | refine blk_drew ?_ | refine blk_alloc ?_ _)); exact BK283.out⟩, ⟨by repeat (first | (with_reducible first | exact HB.out | apply below_alloc | apply pw_below_drewN | apply below_drew1 | refine below_set ?_ GE283.out) | exact HB.out)⟩⟩
     case rest =>
      clear HC51
      try clear c2
      try clear p2
      try clear c4
      try clear c5
      try clear c6
      try clear p6
      try clear hcv7
      try clear c49
      try clear c59
      try clear c59b0
      try clear c59b1
      try clear c61
      try clear c62
      try clear p64
      try clear hcv74
      try clear hcv75
      try clear hcv76
      try clear hcv77
      obtain ⟨kq, x91_50, rfl, HA, HJ50, HO_11, HO_13, BK283, HB⟩ := hcut
      cases kq with
      | zero => exact absurd HA.out (by simp [towropelaw08_GramPuts.j1])
      | succ kj50 =>
       have H := HA.out
       clear HA
       simp only [towropelaw08_GramPuts.j1] at H
       by_cases c80 : x91_50 = true
       ·
        subst c80
        have H1 : (some false) = some r := by rw [if_pos rfl] at H; exact H
        clear H
        have H := H1
        clear H1
        exact absurd ((Option.some.inj H).trans HRT.out) (by decide)
       ·
        replace c80 := Bool.eq_false_iff.mpr c80
        subst c80
        have H1 : ((some (([] : List Int) : List Int)).bind fun y305 => (if y305.length + t285.length < 140737488355328 then ((some (y305 ++ t285 : List Int)).bind fun y308 => (if y308.length + l3.length < 140737488355328 then ((gram_Get.f kj50 a0 a1 (y308 ++ l3)).bind fun bt314 => ((gram_Get.f kj50 a1 a0 t289).bind fun bt321 => ((towropelaw08_code.f bt314.2.2.2).bind fun t328 => ((towropelaw08_code.f bt321.2.2.2).bind fun t329 => (if (wrap64 (t328 + t329)) = 0 then ((towroperef08_Same.f bt314.1 bt314.2.1 bt314.2.2.1 a2_0 a2_1 l2_2).bind fun t330 => (if t330 = true then ((towroperef08_Same.f bt321.1 bt321.2.1 bt321.2.2.1 a2_0 a2_1 l2_2).bind fun t331 => (if t331 = true then ((gram_Same.f bt314.1 bt314.2.1 bt314.2.2.1 bt321.1 bt321.2.1 bt321.2.2.1).bind fun t332 => (if t332 = true then ((towropelaw08_live.f kj50).bind fun t333 => (some t333)) else (some false))) else (some false))) else (some false))) else (some false)))))) else (none))) else (none))) = some r := by rw [if_neg (show ¬ (false = true) by decide)] at H; exact H
        clear H
        have H := H1
        clear H1
        obtain ⟨y305, hy305⟩ : ∃ y_ : List Int, y_ = (([] : List Int)) := ⟨_, rfl⟩
        replace H : (if y305.length + t285.length < 140737488355328 then ((some (y305 ++ t285 : List Int)).bind fun y308 => (if y308.length + l3.length < 140737488355328 then ((gram_Get.f kj50 a0 a1 (y308 ++ l3)).bind fun bt314 => ((gram_Get.f kj50 a1 a0 t289).bind fun bt321 => ((towropelaw08_code.f bt314.2.2.2).bind fun t328 => ((towropelaw08_code.f bt321.2.2.2).bind fun t329 => (if (wrap64 (t328 + t329)) = 0 then ((towroperef08_Same.f bt314.1 bt314.2.1 bt314.2.2.1 a2_0 a2_1 l2_2).bind fun t330 => (if t330 = true then ((towroperef08_Same.f bt321.1 bt321.2.1 bt321.2.2.1 a2_0 a2_1 l2_2).bind fun t331 => (if t331 = true then ((gram_Same.f bt314.1 bt314.2.1 bt314.2.2.1 bt321.1 bt321.2.1 bt321.2.2.1).bind fun t332 => (if t332 = true then ((towropelaw08_live.f kj50).bind fun t333 => (some t333)) else (some false))) else (some false))) else (some false))) else (some false)))))) else (none))) else (none)) = some r := by first | (rw [hy305]; with_reducible exact H) | (have H2_ := (Option.bind_some _ _).symm.trans H; rw [hy305]; with_reducible exact H2_) | (have H2_ := (Option.bind_some _ _).symm.trans H; with_reducible exact H2_) | with_reducible exact H | (rw [hy305]; exact H) | exact H
        have Ny305 := Aside0.mk hy305
        clear hy305
        by_cases c81 : y305.length + t285.length < 140737488355328
        ·
         rw [if_pos c81] at H
         have LMc81 := Aside0.mk c81
         clear c81
         obtain ⟨y308, hy308⟩ : ∃ y_ : List Int, y_ = (y305 ++ t285) := ⟨_, rfl⟩
         replace H : (if y308.length + l3.length < 140737488355328 then ((gram_Get.f kj50 a0 a1 (y308 ++ l3)).bind fun bt314 => ((gram_Get.f kj50 a1 a0 t289).bind fun bt321 => ((towropelaw08_code.f bt314.2.2.2).bind fun t328 => ((towropelaw08_code.f bt321.2.2.2).bind fun t329 => (if (wrap64 (t328 + t329)) = 0 then ((towroperef08_Same.f bt314.1 bt314.2.1 bt314.2.2.1 a2_0 a2_1 l2_2).bind fun t330 => (if t330 = true then ((towroperef08_Same.f bt321.1 bt321.2.1 bt321.2.2.1 a2_0 a2_1 l2_2).bind fun t331 => (if t331 = true then ((gram_Same.f bt314.1 bt314.2.1 bt314.2.2.1 bt321.1 bt321.2.1 bt321.2.2.1).bind fun t332 => (if t332 = true then ((towropelaw08_live.f kj50).bind fun t333 => (some t333)) else (some false))) else (some false))) else (some false))) else (some false)))))) else (none)) = some r := by first | (rw [hy308]; with_reducible exact H) | (have H2_ := (Option.bind_some _ _).symm.trans H; rw [hy308]; with_reducible exact H2_) | (have H2_ := (Option.bind_some _ _).symm.trans H; with_reducible exact H2_) | with_reducible exact H | (rw [hy308]; exact H) | exact H
         have Ny308 := Aside0.mk hy308
         clear hy308
         by_cases c82 : y308.length + l3.length < 140737488355328
         ·
          rw [if_pos c82] at H
          have LMc82 := Aside0.mk c82
          clear c82
          obtain ⟨y311, hy311⟩ : ∃ y_ : List Int, y_ = (y308 ++ l3) := ⟨_, rfl⟩
          replace H : ((gram_Get.f kj50 a0 a1 y311).bind fun bt314 => ((gram_Get.f kj50 a1 a0 t289).bind fun bt321 => ((towropelaw08_code.f bt314.2.2.2).bind fun t328 => ((towropelaw08_code.f bt321.2.2.2).bind fun t329 => (if (wrap64 (t328 + t329)) = 0 then ((towroperef08_Same.f bt314.1 bt314.2.1 bt314.2.2.1 a2_0 a2_1 l2_2).bind fun t330 => (if t330 = true then ((towroperef08_Same.f bt321.1 bt321.2.1 bt321.2.2.1 a2_0 a2_1 l2_2).bind fun t331 => (if t331 = true then ((gram_Same.f bt314.1 bt314.2.1 bt314.2.2.1 bt321.1 bt321.2.1 bt321.2.2.1).bind fun t332 => (if t332 = true then ((towropelaw08_live.f kj50).bind fun t333 => (some t333)) else (some false))) else (some false))) else (some false))) else (some false)))))) = some r := by first | (rw [hy311]; with_reducible exact H) | (have H2_ := (Option.bind_some _ _).symm.trans H; rw [hy311]; with_reducible exact H2_) | (have H2_ := (Option.bind_some _ _).symm.trans H; with_reducible exact H2_) | with_reducible exact H | (rw [hy311]; exact H) | exact H
          have Ny311 := Aside0.mk hy311
          clear hy311
          replace H := Option.bind_eq_some_iff.mp H
          obtain ⟨⟨t314, t315, t316, t319⟩, A830, H⟩ := H
          replace H : ((gram_Get.f kj50 a1 a0 t289).bind fun bt321 => ((towropelaw08_code.f t319).bind fun t328 => ((towropelaw08_code.f bt321.2.2.2).bind fun t329 => (if (wrap64 (t328 + t329)) = 0 then ((towroperef08_Same.f t314 t315 t316 a2_0 a2_1 l2_2).bind fun t330 => (if t330 = true then ((towroperef08_Same.f bt321.1 bt321.2.1 bt321.2.2.1 a2_0 a2_1 l2_2).bind fun t331 => (if t331 = true then ((gram_Same.f t314 t315 t316 bt321.1 bt321.2.1 bt321.2.2.1).bind fun t332 => (if t332 = true then ((towropelaw08_live.f kj50).bind fun t333 => (some t333)) else (some false))) else (some false))) else (some false))) else (some false))))) = some r := H
          have A83 := Aside0.mk A830
          clear A830
          replace H := Option.bind_eq_some_iff.mp H
          obtain ⟨⟨t321, t322, t323, t326⟩, A840, H⟩ := H
          replace H : ((towropelaw08_code.f t319).bind fun t328 => ((towropelaw08_code.f t326).bind fun t329 => (if (wrap64 (t328 + t329)) = 0 then ((towroperef08_Same.f t314 t315 t316 a2_0 a2_1 l2_2).bind fun t330 => (if t330 = true then ((towroperef08_Same.f t321 t322 t323 a2_0 a2_1 l2_2).bind fun t331 => (if t331 = true then ((gram_Same.f t314 t315 t316 t321 t322 t323).bind fun t332 => (if t332 = true then ((towropelaw08_live.f kj50).bind fun t333 => (some t333)) else (some false))) else (some false))) else (some false))) else (some false)))) = some r := H
          have A84 := Aside0.mk A840
          clear A840
          replace H := Option.bind_eq_some_iff.mp H
          obtain ⟨t328, A850, H⟩ := H
          replace H : ((towropelaw08_code.f t326).bind fun t329 => (if (wrap64 (t328 + t329)) = 0 then ((towroperef08_Same.f t314 t315 t316 a2_0 a2_1 l2_2).bind fun t330 => (if t330 = true then ((towroperef08_Same.f t321 t322 t323 a2_0 a2_1 l2_2).bind fun t331 => (if t331 = true then ((gram_Same.f t314 t315 t316 t321 t322 t323).bind fun t332 => (if t332 = true then ((towropelaw08_live.f kj50).bind fun t333 => (some t333)) else (some false))) else (some false))) else (some false))) else (some false))) = some r := H
          have A85 := Aside0.mk A850
          clear A850
          replace H := Option.bind_eq_some_iff.mp H
          obtain ⟨t329, A860, H⟩ := H
          replace H : (if (wrap64 (t328 + t329)) = 0 then ((towroperef08_Same.f t314 t315 t316 a2_0 a2_1 l2_2).bind fun t330 => (if t330 = true then ((towroperef08_Same.f t321 t322 t323 a2_0 a2_1 l2_2).bind fun t331 => (if t331 = true then ((gram_Same.f t314 t315 t316 t321 t322 t323).bind fun t332 => (if t332 = true then ((towropelaw08_live.f kj50).bind fun t333 => (some t333)) else (some false))) else (some false))) else (some false))) else (some false)) = some r := H
          have A86 := Aside0.mk A860
          clear A860
          by_cases c87 : (wrap64 (t328 + t329)) = 0
          ·
           rw [if_pos c87] at H
           have c87b0 : ((wrap64 (t328 + t329)) == 0) = true := beq_iff_eq.mpr c87
           have c87b1 : ((wrap64 (t328 + t329)) != 0) = false := bne_eq_false_iff_eq.mpr c87
           clear c87
           replace H := Option.bind_eq_some_iff.mp H
           obtain ⟨t330, A880, H⟩ := H
           replace H : (if t330 = true then ((towroperef08_Same.f t321 t322 t323 a2_0 a2_1 l2_2).bind fun t331 => (if t331 = true then ((gram_Same.f t314 t315 t316 t321 t322 t323).bind fun t332 => (if t332 = true then ((towropelaw08_live.f kj50).bind fun t333 => (some t333)) else (some false))) else (some false))) else (some false)) = some r := H
           have A88 := Aside0.mk A880
           clear A880
           by_cases c89 : t330 = true
           ·
            subst c89
            have H1 : ((towroperef08_Same.f t321 t322 t323 a2_0 a2_1 l2_2).bind fun t331 => (if t331 = true then ((gram_Same.f t314 t315 t316 t321 t322 t323).bind fun t332 => (if t332 = true then ((towropelaw08_live.f kj50).bind fun t333 => (some t333)) else (some false))) else (some false))) = some r := by rw [if_pos rfl] at H; exact H
            clear H
            have H := H1
            clear H1
            replace H := Option.bind_eq_some_iff.mp H
            obtain ⟨t331, A900, H⟩ := H
            replace H : (if t331 = true then ((gram_Same.f t314 t315 t316 t321 t322 t323).bind fun t332 => (if t332 = true then ((towropelaw08_live.f kj50).bind fun t333 => (some t333)) else (some false))) else (some false)) = some r := H
            have A90 := Aside0.mk A900
            clear A900
            by_cases c91 : t331 = true
            ·
             subst c91
             have H1 : ((gram_Same.f t314 t315 t316 t321 t322 t323).bind fun t332 => (if t332 = true then ((towropelaw08_live.f kj50).bind fun t333 => (some t333)) else (some false))) = some r := by rw [if_pos rfl] at H; exact H
             clear H
             have H := H1
             clear H1
             replace H := Option.bind_eq_some_iff.mp H
             obtain ⟨t332, A920, H⟩ := H
             replace H : (if t332 = true then ((towropelaw08_live.f kj50).bind fun t333 => (some t333)) else (some false)) = some r := H
             have A92 := Aside0.mk A920
             clear A920
             by_cases c93 : t332 = true
             ·
              subst c93
              have H1 : ((towropelaw08_live.f kj50).bind fun t333 => (some t333)) = some r := by rw [if_pos rfl] at H; exact H
              clear H
              have H := H1
              clear H1
              replace H := Option.bind_eq_some_iff.mp H
              obtain ⟨t333, A940, H⟩ := H
              replace H : (some t333) = some r := H
              have A94 := Aside0.mk A940
              clear A940
              obtain rfl := Option.some.inj H
              go_wp2_with (first | ((with_reducible refine gate_dst (N := 95) rfl ?_); (try (refine gate_guard (by rfl) ?_; dsimp only)); refine Kd.R_lit (Kd.int .u8) _ 5 ?hg (N := 95) ?hd (xs := ([] : List Int)) (inner := []) (ok := fun _ => True) (okp := fun _ => True) ?hr ?hp (fun _ hk => hk) trivial (Below.refl _ _) (Nat.le_refl _) (by simp) ?_; (case hd => rfl); (case hg => rfl); (case hr => first | (go_simp; done) | (go_simp; rfl)); (case hp => exact (Reps.none _ _)); intro v306 w95 ho96 hb hg_ hnew_; clear hg_ hnew_; (first | rw [← Ny305.out] at ho96 | (simp only [Int.reduceToNat] at ho96; rw [← Ny305.out] at ho96)); have n0_ := Aside0.mk (Kd.R_elder' (by (with_reducible repeat (first | apply Kd.R_alloc | apply Kd.R_drewN | apply Kd.R_drew)); exact HO_11.out) (Kd.R_base ho96) hb); have n1_ := Aside0.mk (Kd.R_elder' (by (with_reducible repeat (first | apply Kd.R_alloc | apply Kd.R_drewN | apply Kd.R_drew)); exact HO_13.out) (Kd.R_base ho96) hb); have n2_ := Aside0.mk (Kd.R_lower (Kd.R_new' (Kd.R_new' ho96 (Kd.R_lt (by (with_reducible repeat (first | apply Kd.R_alloc | apply Kd.R_drewN | apply Kd.R_drew)); exact HO_11.out))) (Kd.R_lt (by (with_reducible repeat (first | apply Kd.R_alloc | apply Kd.R_drewN | apply Kd.R_drew)); exact HO_13.out))) (below_size (by repeat (first | (with_reducible first | exact HB.out | apply below_alloc | apply pw_below_drewN | apply below_drew1 | refine below_set ?_ GE283.out) | exact HB.out)))); have n3_ := Aside0.mk (blk_below (g := gb283) (o := .cells #[.int .u16 a2_0, .int .u16 a2_1, .slice A2_2 l2_2.length c2_2] 80 (0, 0)) (by (with_reducible repeat (first | refine blk_drewN ?_ _ | refine blk_drew ?_ | refine blk_alloc ?_ _)); exact BK283.out) hb); have n4_ := Aside0.mk (below_step (by repeat (first | (with_reducible first | exact HB.out | apply below_alloc | apply pw_below_drewN | apply below_drew1 | refine below_set ?_ GE283.out) | exact HB.out)) hb); clear HO_11; clear HO_13; clear BK283; clear HB; have HO_11 := n0_; have HO_13 := n1_; have HO307 := n2_; have BK283 := n3_; have HB := n4_; clear n0_ n1_ n2_ n3_ n4_; clear hb ho96; (try (obtain ⟨Ao98, co98, eo98⟩ := Kd.R_slice HO_11.out; subst eo98))) | ((with_reducible refine gate_builtin (b := .append) (xs := #[.tmp 95, .tmp 96]) rfl ?_); (try (refine gate_guard (by rfl) ?_; dsimp only)); at_builtin; refine Kd.R_append_rows (Kd.int .u8) (w0 := w) w.heap.size rfl (.tmp 95) (.tmp 96) 23 5 (.int .u8 0) 1 rfl Try.underlying23 info5 rfl (by decide) (by omega) v306 y305 t285 _ _ _ (fun k_ => some k_ ≠ (.slice Ao98 t285.length co98 : Value).ownBlock ∧ some k_ ≠ (v290 : Value).ownBlock) (fun _ => False) rfl rfl ?aO ?aR (fun _ _ h => h) (fun _ h => h.elim) ?aF ?aB ?aS ?aL ?_; (case aR => repeat (first | exact (Kd.R_reads' HO_11.out).2.2 | (with_reducible refine Kd.C_alloc ?_ _) | (with_reducible refine Kd.C_drewN ?_ _) | (with_reducible refine Kd.C_drew ?_))); (case aB => exact (by repeat (first | (with_reducible first | exact HB.out | apply below_alloc | apply pw_below_drewN | apply below_drew1 | refine below_set ?_ GE283.out) | exact HB.out))); (case aF => exact (fun k_ hk => ⟨Kd.fresh' (Kd.R_lt (by (with_reducible repeat (first | apply Kd.R_alloc | apply Kd.R_drewN | apply Kd.R_drew)); exact HO_11.out)) k_ hk, Kd.fresh' (Kd.R_lt (by (with_reducible repeat (first | apply Kd.R_alloc | apply Kd.R_drewN | apply Kd.R_drew)); exact HO_13.out)) k_ hk⟩)); (case aO => exact (by (with_reducible repeat (first | apply Kd.R_alloc | apply Kd.R_drewN | apply Kd.R_drew)); exact Kd.R_mono HO307.out (fun _ hk => ⟨hk.1.2, hk.2⟩))); (case aS => exact (below_size (by repeat (first | (with_reducible first | exact HB.out | apply below_alloc | apply pw_below_drewN | apply below_drew1 | refine below_set ?_ GE283.out) | exact HB.out)))); (case aL => have := LMc81.out; omega); intro v309 w97 ho hb hg hat; rw [← Ny308.out] at ho; have n0_ := Aside0.mk (Kd.R_after (ok := (fun k_ => some k_ ≠ (v290 : Value).ownBlock)) (by (with_reducible repeat (first | apply Kd.R_alloc | apply Kd.R_drewN | apply Kd.R_drew)); exact HO_11.out) hg hat); have n1_ := Aside0.mk (Kd.R_after (ok := (fun k_ => some k_ ≠ (.slice Ao98 t285.length co98 : Value).ownBlock)) (by (with_reducible repeat (first | apply Kd.R_alloc | apply Kd.R_drewN | apply Kd.R_drew)); exact HO_13.out) hg hat); have n2_ := Aside0.mk (blk_grown (g := gb283) (o := .cells #[.int .u16 a2_0, .int .u16 a2_1, .slice A2_2 l2_2.length c2_2] 80 (0, 0)) (by (with_reducible repeat (first | refine blk_drewN ?_ _ | refine blk_drew ?_ | refine blk_alloc ?_ _)); exact BK283.out) hg (Kd.R_ne HO307.out BK283.out (by decide))); have n3_ := Aside0.mk (hb); have n4_ := Aside0.mk (ho); clear HO_11; clear HO_13; clear BK283; clear HB; clear HO307; have HO_11 := n0_; have HO_13 := n1_; have BK283 := n2_; have HB := n3_; have HO310 := n4_; clear n0_ n1_ n2_ n3_ n4_; clear ho hb hg hat) | ((with_reducible refine gate_builtin (b := .append) (xs := #[.tmp 97, .tmp 98]) rfl ?_); (try (refine gate_guard (by rfl) ?_; dsimp only)); at_builtin; refine Kd.R_append_rows (Kd.int .u8) (w0 := w) w.heap.size rfl (.tmp 97) (.tmp 98) 23 5 (.int .u8 0) 1 rfl Try.underlying23 info5 rfl (by decide) (by omega) v309 y308 l3 _ _ _ (fun k_ => some k_ ≠ (.slice Ao98 t285.length co98 : Value).ownBlock ∧ some k_ ≠ (v290 : Value).ownBlock) (fun _ => False) rfl rfl ?aO ?aR (fun _ _ h => h) (fun _ h => h.elim) ?aF ?aB ?aS ?aL ?_; (case aR => repeat (first | exact (Kd.C_below HR3.out HB.out) | (with_reducible refine Kd.C_alloc ?_ _) | (with_reducible refine Kd.C_drewN ?_ _) | (with_reducible refine Kd.C_drew ?_))); (case aB => exact (by repeat (first | (with_reducible first | exact HB.out | apply below_alloc | apply pw_below_drewN | apply below_drew1 | refine below_set ?_ GE283.out) | exact HB.out))); (case aF => exact (fun k_ hk => ⟨Kd.fresh' (Kd.R_lt (by (with_reducible repeat (first | apply Kd.R_alloc | apply Kd.R_drewN | apply Kd.R_drew)); exact HO_11.out)) k_ hk, Kd.fresh' (Kd.R_lt (by (with_reducible repeat (first | apply Kd.R_alloc | apply Kd.R_drewN | apply Kd.R_drew)); exact HO_13.out)) k_ hk⟩)); (case aO => exact (by (with_reducible repeat (first | apply Kd.R_alloc | apply Kd.R_drewN | apply Kd.R_drew)); exact HO310.out)); (case aS => exact (below_size (by repeat (first | (with_reducible first | exact HB.out | apply below_alloc | apply pw_below_drewN | apply below_drew1 | refine below_set ?_ GE283.out) | exact HB.out)))); (case aL => have := LMc82.out; omega); intro v312 w99 ho hb hg hat; rw [← Ny311.out] at ho; have n0_ := Aside0.mk (Kd.R_after (ok := (fun k_ => some k_ ≠ (v290 : Value).ownBlock)) (by (with_reducible repeat (first | apply Kd.R_alloc | apply Kd.R_drewN | apply Kd.R_drew)); exact HO_11.out) hg hat); have n1_ := Aside0.mk (Kd.R_after (ok := (fun k_ => some k_ ≠ (.slice Ao98 t285.length co98 : Value).ownBlock)) (by (with_reducible repeat (first | apply Kd.R_alloc | apply Kd.R_drewN | apply Kd.R_drew)); exact HO_13.out) hg hat); have n2_ := Aside0.mk (blk_grown (g := gb283) (o := .cells #[.int .u16 a2_0, .int .u16 a2_1, .slice A2_2 l2_2.length c2_2] 80 (0, 0)) (by (with_reducible repeat (first | refine blk_drewN ?_ _ | refine blk_drew ?_ | refine blk_alloc ?_ _)); exact BK283.out) hg (Kd.R_ne HO310.out BK283.out (by decide))); have n3_ := Aside0.mk (hb); have n4_ := Aside0.mk (ho); clear HO_11; clear HO_13; clear BK283; clear HB; clear HO310; have HO_11 := n0_; have HO_13 := n1_; have BK283 := n2_; have HB := n3_; have HO313 := n4_; clear n0_ n1_ n2_ n3_ n4_; clear ho hb hg hat; (try (obtain ⟨Ao100, co100, eo100⟩ := Kd.R_slice HO313.out; subst eo100))) | ((with_reducible refine gate_callee (f := 46) rfl ?_); refine goesL_ (some 100) rfl rfl Try.func46 (by kernel_rfl) rfl #[.int .u32 a0, .int .u32 a1, .slice Ao100 y311.length co100] rfl (by (try simp only [List.map_toArray, List.map_cons, List.map_nil]); first | done | rfl | (simp only [List.length_drop, List.length_take]; rfl) | (go_simp; done) | (go_simp; omega)) ?_; (with_reducible refine (gram_Get.calls kj50 a0 a1 _ _ y311 t314 t315 t316 t319 _ ?side1 ?side2 A83.out).mono ?_); (case side1 => repeat (first | exact (Kd.R_reads' HO313.out).2.2 | (with_reducible refine Kd.C_alloc ?_ _) | (with_reducible refine Kd.C_drewN ?_ _) | (with_reducible refine Kd.C_drew ?_))); (case side2 => exact (Kd.R_reads' HO313.out).2.1); rintro e w101 ⟨v317, rfl, ho0, hb⟩; refine ⟨_, rfl, ?_⟩; have n0_ := Aside0.mk (Kd.R_elder' (by (with_reducible repeat (first | apply Kd.R_alloc | apply Kd.R_drewN | apply Kd.R_drew)); exact HO_11.out) (Kd.R_base ho0) hb); have n1_ := Aside0.mk (Kd.R_elder' (by (with_reducible repeat (first | apply Kd.R_alloc | apply Kd.R_drewN | apply Kd.R_drew)); exact HO_13.out) (Kd.R_base ho0) hb); have n2_ := Aside0.mk (Kd.R_elder' (by (with_reducible repeat (first | apply Kd.R_alloc | apply Kd.R_drewN | apply Kd.R_drew)); exact HO313.out) (Kd.R_base ho0) hb); have n3_ := Aside0.mk (Kd.R_lower (Kd.R_new' (Kd.R_new' (Kd.R_new' ho0 (Kd.R_lt (by (with_reducible repeat (first | apply Kd.R_alloc | apply Kd.R_drewN | apply Kd.R_drew)); exact HO_11.out))) (Kd.R_lt (by (with_reducible repeat (first | apply Kd.R_alloc | apply Kd.R_drewN | apply Kd.R_drew)); exact HO_13.out))) (Kd.R_lt (by (with_reducible repeat (first | apply Kd.R_alloc | apply Kd.R_drewN | apply Kd.R_drew)); exact HO313.out))) (below_size (by repeat (first | (with_reducible first | exact HB.out | apply below_alloc | apply pw_below_drewN | apply below_drew1 | refine below_set ?_ GE283.out) | exact HB.out)))); have n4_ := Aside0.mk (blk_below (g := gb283) (o := .cells #[.int .u16 a2_0, .int .u16 a2_1, .slice A2_2 l2_2.length c2_2] 80 (0, 0)) (by (with_reducible repeat (first | refine blk_drewN ?_ _ | refine blk_drew ?_ | refine blk_alloc ?_ _)); exact BK283.out) hb); have n5_ := Aside0.mk (below_step (by repeat (first | (with_reducible first | exact HB.out | apply below_alloc | apply pw_below_drewN | apply below_drew1 | refine below_set ?_ GE283.out) | exact HB.out)) hb); clear HO_11; clear HO_13; clear HO313; clear BK283; clear HB; have HO_11 := n0_; have HO_13 := n1_; have HO313 := n2_; have HO318 := n3_; have BK283 := n4_; have HB := n5_; clear n0_ n1_ n2_ n3_ n4_ n5_; (try clear hb); (try clear hb2); (try clear hk); (try clear hi); (try clear ho0)) | ((with_reducible refine gate_dst (N := 15) rfl ?_); (try (refine gate_guard (by rfl) ?_; dsimp only)); refine box_event ?hg (N := 15) ?hd (cs := #[.int .u16 0, .int .u16 0, .slice none 0 0]) (t := 80) ?hr ?_; (case hd => rfl); (case hg => rfl); (case hr => first | (go_simp; done) | (go_simp; rfl)); intro gb320 hg w102 hbox hb; have n0_ := Aside0.mk (Kd.R_below (by (with_reducible repeat (first | apply Kd.R_alloc | apply Kd.R_drewN | apply Kd.R_drew)); exact HO_11.out) hb); have n1_ := Aside0.mk (Kd.R_below (by (with_reducible repeat (first | apply Kd.R_alloc | apply Kd.R_drewN | apply Kd.R_drew)); exact HO_13.out) hb); have n2_ := Aside0.mk (Kd.R_below (by (with_reducible repeat (first | apply Kd.R_alloc | apply Kd.R_drewN | apply Kd.R_drew)); exact HO313.out) hb); have n3_ := Aside0.mk (Kd.R_below (by (with_reducible repeat (first | apply Kd.R_alloc | apply Kd.R_drewN | apply Kd.R_drew)); exact HO318.out) hb); have n4_ := Aside0.mk (blk_below (g := gb283) (o := .cells #[.int .u16 a2_0, .int .u16 a2_1, .slice A2_2 l2_2.length c2_2] 80 (0, 0)) (by (with_reducible repeat (first | refine blk_drewN ?_ _ | refine blk_drew ?_ | refine blk_alloc ?_ _)); exact BK283.out) hb); have n5_ := Aside0.mk (below_step (by repeat (first | (with_reducible first | exact HB.out | apply below_alloc | apply pw_below_drewN | apply below_drew1 | refine below_set ?_ GE283.out) | exact HB.out)) hb); have n6_ := Aside0.mk (hbox); have n7_ := Aside0.mk ((by rw [hg]; exact (below_size (by repeat (first | (with_reducible first | exact HB.out | apply below_alloc | apply pw_below_drewN | apply below_drew1 | refine below_set ?_ GE283.out) | exact HB.out))) : w.heap.size ≤ gb320)); have n8_ := Aside0.mk ((by rw [hg]; exact (below_size (by repeat (first | (with_reducible first | exact HB.out | apply below_alloc | apply pw_below_drewN | apply below_drew1 | refine below_set ?_ GE283.out) | exact HB.out))) : w.heap.size ≤ gb320)); have n9_ := Aside0.mk ((by rw [hg]; exact Nat.ne_of_lt (blk_lt (g := gb283) (o := .cells #[.int .u16 a2_0, .int .u16 a2_1, .slice A2_2 l2_2.length c2_2] 80 (0, 0)) (by (with_reducible repeat (first | refine blk_drewN ?_ _ | refine blk_drew ?_ | refine blk_alloc ?_ _)); exact BK283.out)) : gb283 ≠ gb320)); have n10_ := Aside0.mk ((by rw [hg]; exact Nat.ne_of_gt (blk_lt (g := gb283) (o := .cells #[.int .u16 a2_0, .int .u16 a2_1, .slice A2_2 l2_2.length c2_2] 80 (0, 0)) (by (with_reducible repeat (first | refine blk_drewN ?_ _ | refine blk_drew ?_ | refine blk_alloc ?_ _)); exact BK283.out)) : gb320 ≠ gb283)); clear HO_11; clear HO_13; clear HO313; clear HO318; clear BK283; clear HB; have HO_11 := n0_; have HO_13 := n1_; have HO313 := n2_; have HO318 := n3_; have BK283 := n4_; have HB := n5_; have BK320 := n6_; have GW320 := n7_; have GE320 := n8_; have NB283_320 := n9_; have NB320_283 := n10_; clear n0_ n1_ n2_ n3_ n4_ n5_ n6_ n7_ n8_ n9_ n10_; clear hb hbox hg; have hnb103 := NB320_283.out; have hnc103 := NB283_320.out; have hcz104_0 : w102.cell? ⟨gb320, 0, none⟩ = some (.int .u16 0) := (blk_cell BK320.out 0).trans rfl; have hcz104_1 : w102.cell? ⟨gb320, 1, none⟩ = some (.int .u16 0) := (blk_cell BK320.out 1).trans rfl; have hcz104_2 : w102.cell? ⟨gb320, 2, none⟩ = some (.slice none 0 0) := (blk_cell BK320.out 2).trans rfl; have hfz104_0 := blk_frozen BK320.out 0; have hfz104_1 := blk_frozen BK320.out 1; have hfz104_2 := blk_frozen BK320.out 2; (try (obtain ⟨Ao105, co105, eo105⟩ := Kd.R_slice HO318.out; subst eo105)); (try (obtain ⟨Ao106, co106, eo106⟩ := Kd.R_slice HO_13.out; subst eo106))) | ((with_reducible refine gate_callee (f := 46) rfl ?_); refine goesL_ (some 107) rfl rfl Try.func46 (by kernel_rfl) rfl #[.int .u32 a1, .int .u32 a0, .slice Ao106 t289.length co106] rfl (by (try simp only [List.map_toArray, List.map_cons, List.map_nil]); first | done | rfl | (simp only [List.length_drop, List.length_take]; rfl) | (go_simp; done) | (go_simp; omega)) ?_; (with_reducible refine (gram_Get.calls kj50 a1 a0 _ _ t289 t321 t322 t323 t326 _ ?side1 ?side2 A84.out).mono ?_); (case side1 => refine (Kd.R_reads' (e := 5) (base := w.heap.size) (ok := fun k_ => ((some k_ ≠ (.slice Ao98 t285.length co98 : Value).ownBlock ∧ some k_ ≠ (.slice Ao100 y311.length co100 : Value).ownBlock) ∧ some k_ ≠ (.slice Ao105 t316.length co105 : Value).ownBlock)) (n := t289.length) (c := co106) ?_).2.2; exact (by (with_reducible repeat (first | apply Kd.R_alloc | apply Kd.R_drewN | apply Kd.R_drew)); exact (Kd.R_mono (Kd.R_far (p := ⟨gb320, 2, none⟩) (Kd.R_far (p := ⟨gb320, 1, none⟩) (Kd.R_far (p := ⟨gb320, 0, none⟩) (Kd.R_types HO_13.out BK320.out (by decide)) (fun _ hk => hk.2) (.int .u16 t314)) (fun _ hk => hk.2) (.int .u16 t315)) (fun _ hk => hk.2) (.slice Ao105 t316.length co105)) (fun _ h_ => h_.1)))); (case side2 => exact (Kd.R_reads' HO_13.out).2.1); rintro e w107 ⟨v324, rfl, ho0, hb⟩; refine ⟨_, rfl, ?_⟩; have n0_ := Aside0.mk (Kd.R_elder' (by (with_reducible repeat (first | apply Kd.R_alloc | apply Kd.R_drewN | apply Kd.R_drew)); exact (Kd.R_mono (Kd.R_far (p := ⟨gb320, 2, none⟩) (Kd.R_far (p := ⟨gb320, 1, none⟩) (Kd.R_far (p := ⟨gb320, 0, none⟩) (Kd.R_types HO_11.out BK320.out (by decide)) (fun _ hk => hk.2) (.int .u16 t314)) (fun _ hk => hk.2) (.int .u16 t315)) (fun _ hk => hk.2) (.slice Ao105 t316.length co105)) (fun _ h_ => h_.1))) (Kd.R_base ho0) hb); have n1_ := Aside0.mk (Kd.R_elder' (by (with_reducible repeat (first | apply Kd.R_alloc | apply Kd.R_drewN | apply Kd.R_drew)); exact (Kd.R_mono (Kd.R_far (p := ⟨gb320, 2, none⟩) (Kd.R_far (p := ⟨gb320, 1, none⟩) (Kd.R_far (p := ⟨gb320, 0, none⟩) (Kd.R_types HO_13.out BK320.out (by decide)) (fun _ hk => hk.2) (.int .u16 t314)) (fun _ hk => hk.2) (.int .u16 t315)) (fun _ hk => hk.2) (.slice Ao105 t316.length co105)) (fun _ h_ => h_.1))) (Kd.R_base ho0) hb); have n2_ := Aside0.mk (Kd.R_elder' (by (with_reducible repeat (first | apply Kd.R_alloc | apply Kd.R_drewN | apply Kd.R_drew)); exact (Kd.R_mono (Kd.R_far (p := ⟨gb320, 2, none⟩) (Kd.R_far (p := ⟨gb320, 1, none⟩) (Kd.R_far (p := ⟨gb320, 0, none⟩) (Kd.R_types HO313.out BK320.out (by decide)) (fun _ hk => hk.2) (.int .u16 t314)) (fun _ hk => hk.2) (.int .u16 t315)) (fun _ hk => hk.2) (.slice Ao105 t316.length co105)) (fun _ h_ => h_.1))) (Kd.R_base ho0) hb); have n3_ := Aside0.mk (Kd.R_elder' (by (with_reducible repeat (first | apply Kd.R_alloc | apply Kd.R_drewN | apply Kd.R_drew)); exact (Kd.R_mono (Kd.R_far (p := ⟨gb320, 2, none⟩) (Kd.R_far (p := ⟨gb320, 1, none⟩) (Kd.R_far (p := ⟨gb320, 0, none⟩) (Kd.R_types HO318.out BK320.out (by decide)) (fun _ hk => hk.2) (.int .u16 t314)) (fun _ hk => hk.2) (.int .u16 t315)) (fun _ hk => hk.2) (.slice Ao105 t316.length co105)) (fun _ h_ => h_.1))) (Kd.R_base ho0) hb); have n4_ := Aside0.mk (Kd.R_lower (Kd.R_new' (Kd.R_new' (Kd.R_new' (Kd.R_new' ho0 (Kd.R_lt (by (with_reducible repeat (first | apply Kd.R_alloc | apply Kd.R_drewN | apply Kd.R_drew)); exact (Kd.R_mono (Kd.R_far (p := ⟨gb320, 2, none⟩) (Kd.R_far (p := ⟨gb320, 1, none⟩) (Kd.R_far (p := ⟨gb320, 0, none⟩) (Kd.R_types HO_11.out BK320.out (by decide)) (fun _ hk => hk.2) (.int .u16 t314)) (fun _ hk => hk.2) (.int .u16 t315)) (fun _ hk => hk.2) (.slice Ao105 t316.length co105)) (fun _ h_ => h_.1))))) (Kd.R_lt (by (with_reducible repeat (first | apply Kd.R_alloc | apply Kd.R_drewN | apply Kd.R_drew)); exact (Kd.R_mono (Kd.R_far (p := ⟨gb320, 2, none⟩) (Kd.R_far (p := ⟨gb320, 1, none⟩) (Kd.R_far (p := ⟨gb320, 0, none⟩) (Kd.R_types HO_13.out BK320.out (by decide)) (fun _ hk => hk.2) (.int .u16 t314)) (fun _ hk => hk.2) (.int .u16 t315)) (fun _ hk => hk.2) (.slice Ao105 t316.length co105)) (fun _ h_ => h_.1))))) (Kd.R_lt (by (with_reducible repeat (first | apply Kd.R_alloc | apply Kd.R_drewN | apply Kd.R_drew)); exact (Kd.R_mono (Kd.R_far (p := ⟨gb320, 2, none⟩) (Kd.R_far (p := ⟨gb320, 1, none⟩) (Kd.R_far (p := ⟨gb320, 0, none⟩) (Kd.R_types HO313.out BK320.out (by decide)) (fun _ hk => hk.2) (.int .u16 t314)) (fun _ hk => hk.2) (.int .u16 t315)) (fun _ hk => hk.2) (.slice Ao105 t316.length co105)) (fun _ h_ => h_.1))))) (Kd.R_lt (by (with_reducible repeat (first | apply Kd.R_alloc | apply Kd.R_drewN | apply Kd.R_drew)); exact (Kd.R_mono (Kd.R_far (p := ⟨gb320, 2, none⟩) (Kd.R_far (p := ⟨gb320, 1, none⟩) (Kd.R_far (p := ⟨gb320, 0, none⟩) (Kd.R_types HO318.out BK320.out (by decide)) (fun _ hk => hk.2) (.int .u16 t314)) (fun _ hk => hk.2) (.int .u16 t315)) (fun _ hk => hk.2) (.slice Ao105 t316.length co105)) (fun _ h_ => h_.1))))) (below_size (by repeat (first | (with_reducible first | exact HB.out | apply below_alloc | apply pw_below_drewN | apply below_drew1 | refine below_set ?_ GE283.out | refine below_set ?_ GE320.out) | exact HB.out)))); have n5_ := Aside0.mk (blk_below (g := gb283) (o := .cells #[.int .u16 a2_0, .int .u16 a2_1, .slice A2_2 l2_2.length c2_2] 80 (0, 0)) (by (with_reducible repeat (first | refine blk_drewN ?_ _ | refine blk_drew ?_ | refine blk_alloc ?_ _)); refine blk_far ?_ NB283_320.out _; (with_reducible repeat (first | refine blk_drewN ?_ _ | refine blk_drew ?_ | refine blk_alloc ?_ _)); refine blk_far ?_ NB283_320.out _; (with_reducible repeat (first | refine blk_drewN ?_ _ | refine blk_drew ?_ | refine blk_alloc ?_ _)); refine blk_far ?_ NB283_320.out _; (with_reducible repeat (first | refine blk_drewN ?_ _ | refine blk_drew ?_ | refine blk_alloc ?_ _)); exact BK283.out) hb); have n6_ := Aside0.mk (blk_below (g := gb320) (o := .cells #[.int .u16 t314, .int .u16 t315, .slice Ao105 t316.length co105] 80 (0, 0)) (by (with_reducible repeat (first | refine blk_drewN ?_ _ | refine blk_drew ?_ | refine blk_alloc ?_ _)); refine blk_put (cs := #[.int .u16 t314, .int .u16 t315, .slice none 0 0]) ?_ 2 _ rfl; (with_reducible repeat (first | refine blk_drewN ?_ _ | refine blk_drew ?_ | refine blk_alloc ?_ _)); refine blk_put (cs := #[.int .u16 t314, .int .u16 0, .slice none 0 0]) ?_ 1 _ rfl; (with_reducible repeat (first | refine blk_drewN ?_ _ | refine blk_drew ?_ | refine blk_alloc ?_ _)); refine blk_put (cs := #[.int .u16 0, .int .u16 0, .slice none 0 0]) ?_ 0 _ rfl; (with_reducible repeat (first | refine blk_drewN ?_ _ | refine blk_drew ?_ | refine blk_alloc ?_ _)); exact BK320.out) hb); have n7_ := Aside0.mk (below_step (by repeat (first | (with_reducible first | exact HB.out | apply below_alloc | apply pw_below_drewN | apply below_drew1 | refine below_set ?_ GE283.out | refine below_set ?_ GE320.out) | exact HB.out)) hb); clear HO_11; clear HO_13; clear HO313; clear HO318; clear BK283; clear BK320; clear HB; have HO_11 := n0_; have HO_13 := n1_; have HO313 := n2_; have HO318 := n3_; have HO325 := n4_; have BK283 := n5_; have BK320 := n6_; have HB := n7_; clear n0_ n1_ n2_ n3_ n4_ n5_ n6_ n7_; (try clear hb); (try clear hb2); (try clear hk); (try clear hi); (try clear ho0)) | ((with_reducible refine gate_dst (N := 17) rfl ?_); (try (refine gate_guard (by rfl) ?_; dsimp only)); refine box_event ?hg (N := 17) ?hd (cs := #[.int .u16 0, .int .u16 0, .slice none 0 0]) (t := 80) ?hr ?_; (case hd => rfl); (case hg => rfl); (case hr => first | (go_simp; done) | (go_simp; rfl)); intro gb327 hg w108 hbox hb; have n0_ := Aside0.mk (Kd.R_below (by (with_reducible repeat (first | apply Kd.R_alloc | apply Kd.R_drewN | apply Kd.R_drew)); exact HO_11.out) hb); have n1_ := Aside0.mk (Kd.R_below (by (with_reducible repeat (first | apply Kd.R_alloc | apply Kd.R_drewN | apply Kd.R_drew)); exact HO_13.out) hb); have n2_ := Aside0.mk (Kd.R_below (by (with_reducible repeat (first | apply Kd.R_alloc | apply Kd.R_drewN | apply Kd.R_drew)); exact HO313.out) hb); have n3_ := Aside0.mk (Kd.R_below (by (with_reducible repeat (first | apply Kd.R_alloc | apply Kd.R_drewN | apply Kd.R_drew)); exact HO318.out) hb); have n4_ := Aside0.mk (Kd.R_below (by (with_reducible repeat (first | apply Kd.R_alloc | apply Kd.R_drewN | apply Kd.R_drew)); exact HO325.out) hb); have n5_ := Aside0.mk (blk_below (g := gb283) (o := .cells #[.int .u16 a2_0, .int .u16 a2_1, .slice A2_2 l2_2.length c2_2] 80 (0, 0)) (by (with_reducible repeat (first | refine blk_drewN ?_ _ | refine blk_drew ?_ | refine blk_alloc ?_ _)); exact BK283.out) hb); have n6_ := Aside0.mk (blk_below (g := gb320) (o := .cells #[.int .u16 t314, .int .u16 t315, .slice Ao105 t316.length co105] 80 (0, 0)) (by (with_reducible repeat (first | refine blk_drewN ?_ _ | refine blk_drew ?_ | refine blk_alloc ?_ _)); exact BK320.out) hb); have n7_ := Aside0.mk (below_step (by repeat (first | (with_reducible first | exact HB.out | apply below_alloc | apply pw_below_drewN | apply below_drew1 | refine below_set ?_ GE283.out | refine below_set ?_ GE320.out) | exact HB.out)) hb); have n8_ := Aside0.mk (hbox); have n9_ := Aside0.mk ((by rw [hg]; exact (below_size (by repeat (first | (with_reducible first | exact HB.out | apply below_alloc | apply pw_below_drewN | apply below_drew1 | refine below_set ?_ GE283.out | refine below_set ?_ GE320.out) | exact HB.out))) : w.heap.size ≤ gb327)); have n10_ := Aside0.mk ((by rw [hg]; exact (below_size (by repeat (first | (with_reducible first | exact HB.out | apply below_alloc | apply pw_below_drewN | apply below_drew1 | refine below_set ?_ GE283.out | refine below_set ?_ GE320.out) | exact HB.out))) : w.heap.size ≤ gb327)); have n11_ := Aside0.mk ((by rw [hg]; exact Nat.ne_of_lt (blk_lt (g := gb283) (o := .cells #[.int .u16 a2_0, .int .u16 a2_1, .slice A2_2 l2_2.length c2_2] 80 (0, 0)) (by (with_reducible repeat (first | refine blk_drewN ?_ _ | refine blk_drew ?_ | refine blk_alloc ?_ _)); exact BK283.out)) : gb283 ≠ gb327)); have n12_ := Aside0.mk ((by rw [hg]; exact Nat.ne_of_gt (blk_lt (g := gb283) (o := .cells #[.int .u16 a2_0, .int .u16 a2_1, .slice A2_2 l2_2.length c2_2] 80 (0, 0)) (by (with_reducible repeat (first | refine blk_drewN ?_ _ | refine blk_drew ?_ | refine blk_alloc ?_ _)); exact BK283.out)) : gb327 ≠ gb283)); have n13_ := Aside0.mk ((by rw [hg]; exact Nat.ne_of_lt (blk_lt (g := gb320) (o := .cells #[.int .u16 t314, .int .u16 t315, .slice Ao105 t316.length co105] 80 (0, 0)) (by (with_reducible repeat (first | refine blk_drewN ?_ _ | refine blk_drew ?_ | refine blk_alloc ?_ _)); exact BK320.out)) : gb320 ≠ gb327)); have n14_ := Aside0.mk ((by rw [hg]; exact Nat.ne_of_gt (blk_lt (g := gb320) (o := .cells #[.int .u16 t314, .int .u16 t315, .slice Ao105 t316.length co105] 80 (0, 0)) (by (with_reducible repeat (first | refine blk_drewN ?_ _ | refine blk_drew ?_ | refine blk_alloc ?_ _)); exact BK320.out)) : gb327 ≠ gb320)); clear HO_11; clear HO_13; clear HO313; clear HO318; clear HO325; clear BK283; clear BK320; clear HB; have HO_11 := n0_; have HO_13 := n1_; have HO313 := n2_; have HO318 := n3_; have HO325 := n4_; have BK283 := n5_; have BK320 := n6_; have HB := n7_; have BK327 := n8_; have GW327 := n9_; have GE327 := n10_; have NB283_327 := n11_; have NB327_283 := n12_; have NB320_327 := n13_; have NB327_320 := n14_; clear n0_ n1_ n2_ n3_ n4_ n5_ n6_ n7_ n8_ n9_ n10_ n11_ n12_ n13_ n14_; clear hb hbox hg; have hnb109 := NB327_283.out; have hnc109 := NB283_327.out; have hnb110 := NB327_320.out; have hnc110 := NB320_327.out; have hcz111_0 : w108.cell? ⟨gb327, 0, none⟩ = some (.int .u16 0) := (blk_cell BK327.out 0).trans rfl; have hcz111_1 : w108.cell? ⟨gb327, 1, none⟩ = some (.int .u16 0) := (blk_cell BK327.out 1).trans rfl; have hcz111_2 : w108.cell? ⟨gb327, 2, none⟩ = some (.slice none 0 0) := (blk_cell BK327.out 2).trans rfl; have hfz111_0 := blk_frozen BK327.out 0; have hfz111_1 := blk_frozen BK327.out 1; have hfz111_2 := blk_frozen BK327.out 2; (try (obtain ⟨Ao112, co112, eo112⟩ := Kd.R_slice HO325.out; subst eo112))) | ((with_reducible refine gate_callee (f := 49) rfl ?_); refine goesL_ (some 111) rfl rfl Try.func49 (by kernel_rfl) rfl #[.int .i64 t319] rfl (by (try simp only [List.map_toArray, List.map_cons, List.map_nil]); first | done | rfl | (simp only [List.length_drop, List.length_take]; rfl) | (go_simp; done) | (go_simp; omega)) ?_; (with_reducible refine (towropelaw08_code.calls t319 t328 _ A85.out).mono ?_); rintro e w' ⟨rfl, ⟨nd, rfl⟩⟩; refine ⟨_, rfl, ?_⟩) | ((with_reducible refine gate_callee (f := 49) rfl ?_); refine goesL_ (some 113) rfl rfl Try.func49 (by kernel_rfl) rfl #[.int .i64 t326] rfl (by (try simp only [List.map_toArray, List.map_cons, List.map_nil]); first | done | rfl | (simp only [List.length_drop, List.length_take]; rfl) | (go_simp; done) | (go_simp; omega)) ?_; (with_reducible refine (towropelaw08_code.calls t326 t329 _ A86.out).mono ?_); rintro e w' ⟨rfl, ⟨nd, rfl⟩⟩; refine ⟨_, rfl, ?_⟩; have hcz113_0 : w108.cell? ⟨gb320, 0, none⟩ = some (.int .u16 t314) := (blk_cell BK320.out 0).trans rfl; have hcz113_1 : w108.cell? ⟨gb320, 1, none⟩ = some (.int .u16 t315) := (blk_cell BK320.out 1).trans rfl; have hcz113_2 : w108.cell? ⟨gb320, 2, none⟩ = some (.slice Ao105 t316.length co105) := (blk_cell BK320.out 2).trans rfl; have hfz113_0 := blk_frozen BK320.out 0; have hfz113_1 := blk_frozen BK320.out 1; have hfz113_2 := blk_frozen BK320.out 2; have hcz114_0 : w108.cell? ⟨gb283, 0, none⟩ = some (.int .u16 a2_0) := (blk_cell BK283.out 0).trans rfl; have hcz114_1 : w108.cell? ⟨gb283, 1, none⟩ = some (.int .u16 a2_1) := (blk_cell BK283.out 1).trans rfl; have hcz114_2 : w108.cell? ⟨gb283, 2, none⟩ = some (.slice A2_2 l2_2.length c2_2) := (blk_cell BK283.out 2).trans rfl; have hfz114_0 := blk_frozen BK283.out 0; have hfz114_1 := blk_frozen BK283.out 1; have hfz114_2 := blk_frozen BK283.out 2) | (go_at_call 50; (with_reducible refine (towroperef08_Same.calls t314 t315 _ _ t316 a2_0 a2_1 _ _ l2_2 true _ ?side1 ?side2 ?side3 ?side4 A88.out).mono ?_); (case side1 => refine (Kd.R_reads' (e := 5) (base := w.heap.size) (ok := fun k_ => ((((True ∧ some k_ ≠ (.slice Ao98 t285.length co98 : Value).ownBlock) ∧ some k_ ≠ (.slice Ao106 t289.length co106 : Value).ownBlock) ∧ some k_ ≠ (.slice Ao100 y311.length co100 : Value).ownBlock) ∧ some k_ ≠ (.slice Ao112 t323.length co112 : Value).ownBlock)) (n := t316.length) (c := co105) ?_).2.2; exact (by (with_reducible repeat (first | apply Kd.R_alloc | apply Kd.R_drewN | apply Kd.R_drew)); exact (Kd.R_mono (Kd.R_far (p := ⟨gb327, 2, none⟩) (Kd.R_far (p := ⟨gb327, 1, none⟩) (Kd.R_far (p := ⟨gb327, 0, none⟩) (Kd.R_types HO318.out BK327.out (by decide)) (fun _ hk => hk.2) (.int .u16 t321)) (fun _ hk => hk.2) (.int .u16 t322)) (fun _ hk => hk.2) (.slice Ao112 t323.length co112)) (fun _ h_ => h_.1)))); (case side2 => exact (Kd.R_reads' HO318.out).2.1); (case side3 => exact Kd.C_below HR2_2.out (by repeat (first | (with_reducible first | exact HB.out | apply below_alloc | apply pw_below_drewN | apply below_drew1 | refine below_set ?_ GE283.out | refine below_set ?_ GE320.out | refine below_set ?_ GE327.out) | exact HB.out))); (case side4 => exact HC2_2.out); rintro e w115 ⟨rfl, hb⟩; have n0_ := Aside0.mk (Kd.R_below (by (with_reducible repeat (first | apply Kd.R_alloc | apply Kd.R_drewN | apply Kd.R_drew)); exact (Kd.R_mono (Kd.R_far (p := ⟨gb327, 2, none⟩) (Kd.R_far (p := ⟨gb327, 1, none⟩) (Kd.R_far (p := ⟨gb327, 0, none⟩) (Kd.R_types HO_11.out BK327.out (by decide)) (fun _ hk => hk.2) (.int .u16 t321)) (fun _ hk => hk.2) (.int .u16 t322)) (fun _ hk => hk.2) (.slice Ao112 t323.length co112)) (fun _ h_ => h_.1))) hb); have n1_ := Aside0.mk (Kd.R_below (by (with_reducible repeat (first | apply Kd.R_alloc | apply Kd.R_drewN | apply Kd.R_drew)); exact (Kd.R_mono (Kd.R_far (p := ⟨gb327, 2, none⟩) (Kd.R_far (p := ⟨gb327, 1, none⟩) (Kd.R_far (p := ⟨gb327, 0, none⟩) (Kd.R_types HO_13.out BK327.out (by decide)) (fun _ hk => hk.2) (.int .u16 t321)) (fun _ hk => hk.2) (.int .u16 t322)) (fun _ hk => hk.2) (.slice Ao112 t323.length co112)) (fun _ h_ => h_.1))) hb); have n2_ := Aside0.mk (Kd.R_below (by (with_reducible repeat (first | apply Kd.R_alloc | apply Kd.R_drewN | apply Kd.R_drew)); exact (Kd.R_mono (Kd.R_far (p := ⟨gb327, 2, none⟩) (Kd.R_far (p := ⟨gb327, 1, none⟩) (Kd.R_far (p := ⟨gb327, 0, none⟩) (Kd.R_types HO313.out BK327.out (by decide)) (fun _ hk => hk.2) (.int .u16 t321)) (fun _ hk => hk.2) (.int .u16 t322)) (fun _ hk => hk.2) (.slice Ao112 t323.length co112)) (fun _ h_ => h_.1))) hb); have n3_ := Aside0.mk (Kd.R_below (by (with_reducible repeat (first | apply Kd.R_alloc | apply Kd.R_drewN | apply Kd.R_drew)); exact (Kd.R_mono (Kd.R_far (p := ⟨gb327, 2, none⟩) (Kd.R_far (p := ⟨gb327, 1, none⟩) (Kd.R_far (p := ⟨gb327, 0, none⟩) (Kd.R_types HO318.out BK327.out (by decide)) (fun _ hk => hk.2) (.int .u16 t321)) (fun _ hk => hk.2) (.int .u16 t322)) (fun _ hk => hk.2) (.slice Ao112 t323.length co112)) (fun _ h_ => h_.1))) hb); have n4_ := Aside0.mk (Kd.R_below (by (with_reducible repeat (first | apply Kd.R_alloc | apply Kd.R_drewN | apply Kd.R_drew)); exact (Kd.R_mono (Kd.R_far (p := ⟨gb327, 2, none⟩) (Kd.R_far (p := ⟨gb327, 1, none⟩) (Kd.R_far (p := ⟨gb327, 0, none⟩) (Kd.R_types HO325.out BK327.out (by decide)) (fun _ hk => hk.2) (.int .u16 t321)) (fun _ hk => hk.2) (.int .u16 t322)) (fun _ hk => hk.2) (.slice Ao112 t323.length co112)) (fun _ h_ => h_.1))) hb); have n5_ := Aside0.mk (blk_below (g := gb283) (o := .cells #[.int .u16 a2_0, .int .u16 a2_1, .slice A2_2 l2_2.length c2_2] 80 (0, 0)) (by (with_reducible repeat (first | refine blk_drewN ?_ _ | refine blk_drew ?_ | refine blk_alloc ?_ _)); refine blk_far ?_ NB283_327.out _; (with_reducible repeat (first | refine blk_drewN ?_ _ | refine blk_drew ?_ | refine blk_alloc ?_ _)); refine blk_far ?_ NB283_327.out _; (with_reducible repeat (first | refine blk_drewN ?_ _ | refine blk_drew ?_ | refine blk_alloc ?_ _)); refine blk_far ?_ NB283_327.out _; (with_reducible repeat (first | refine blk_drewN ?_ _ | refine blk_drew ?_ | refine blk_alloc ?_ _)); exact BK283.out) hb); have n6_ := Aside0.mk (blk_below (g := gb320) (o := .cells #[.int .u16 t314, .int .u16 t315, .slice Ao105 t316.length co105] 80 (0, 0)) (by (with_reducible repeat (first | refine blk_drewN ?_ _ | refine blk_drew ?_ | refine blk_alloc ?_ _)); refine blk_far ?_ NB320_327.out _; (with_reducible repeat (first | refine blk_drewN ?_ _ | refine blk_drew ?_ | refine blk_alloc ?_ _)); refine blk_far ?_ NB320_327.out _; (with_reducible repeat (first | refine blk_drewN ?_ _ | refine blk_drew ?_ | refine blk_alloc ?_ _)); refine blk_far ?_ NB320_327.out _; (with_reducible repeat (first | refine blk_drewN ?_ _ | refine blk_drew ?_ | refine blk_alloc ?_ _)); exact BK320.out) hb); have n7_ := Aside0.mk (blk_below (g := gb327) (o := .cells #[.int .u16 t321, .int .u16 t322, .slice Ao112 t323.length co112] 80 (0, 0)) (by (with_reducible repeat (first | refine blk_drewN ?_ _ | refine blk_drew ?_ | refine blk_alloc ?_ _)); refine blk_put (cs := #[.int .u16 t321, .int .u16 t322, .slice none 0 0]) ?_ 2 _ rfl; (with_reducible repeat (first | refine blk_drewN ?_ _ | refine blk_drew ?_ | refine blk_alloc ?_ _)); refine blk_put (cs := #[.int .u16 t321, .int .u16 0, .slice none 0 0]) ?_ 1 _ rfl; (with_reducible repeat (first | refine blk_drewN ?_ _ | refine blk_drew ?_ | refine blk_alloc ?_ _)); refine blk_put (cs := #[.int .u16 0, .int .u16 0, .slice none 0 0]) ?_ 0 _ rfl; (with_reducible repeat (first | refine blk_drewN ?_ _ | refine blk_drew ?_ | refine blk_alloc ?_ _)); exact BK327.out) hb); have n8_ := Aside0.mk (below_step (by repeat (first | (with_reducible first | exact HB.out | apply below_alloc | apply pw_below_drewN | apply below_drew1 | refine below_set ?_ GE283.out | refine below_set ?_ GE320.out | refine below_set ?_ GE327.out) | exact HB.out)) hb); clear HO_11; clear HO_13; clear HO313; clear HO318; clear HO325; clear BK283; clear BK320; clear BK327; clear HB; have HO_11 := n0_; have HO_13 := n1_; have HO313 := n2_; have HO318 := n3_; have HO325 := n4_; have BK283 := n5_; have BK320 := n6_; have BK327 := n7_; have HB := n8_; clear n0_ n1_ n2_ n3_ n4_ n5_ n6_ n7_ n8_; (try clear hb); (try clear hb2); (try clear hk); (try clear hi); have hcz116_0 : w115.cell? ⟨gb327, 0, none⟩ = some (.int .u16 t321) := (blk_cell BK327.out 0).trans rfl; have hcz116_1 : w115.cell? ⟨gb327, 1, none⟩ = some (.int .u16 t322) := (blk_cell BK327.out 1).trans rfl; have hcz116_2 : w115.cell? ⟨gb327, 2, none⟩ = some (.slice Ao112 t323.length co112) := (blk_cell BK327.out 2).trans rfl; have hfz116_0 := blk_frozen BK327.out 0; have hfz116_1 := blk_frozen BK327.out 1; have hfz116_2 := blk_frozen BK327.out 2; have hcz117_0 : w115.cell? ⟨gb283, 0, none⟩ = some (.int .u16 a2_0) := (blk_cell BK283.out 0).trans rfl; have hcz117_1 : w115.cell? ⟨gb283, 1, none⟩ = some (.int .u16 a2_1) := (blk_cell BK283.out 1).trans rfl; have hcz117_2 : w115.cell? ⟨gb283, 2, none⟩ = some (.slice A2_2 l2_2.length c2_2) := (blk_cell BK283.out 2).trans rfl; have hfz117_0 := blk_frozen BK283.out 0; have hfz117_1 := blk_frozen BK283.out 1; have hfz117_2 := blk_frozen BK283.out 2) | (go_at_call 50; (with_reducible refine (towroperef08_Same.calls t321 t322 _ _ t323 a2_0 a2_1 _ _ l2_2 true _ ?side1 ?side2 ?side3 ?side4 A90.out).mono ?_); (case side1 => repeat (first | exact (Kd.R_reads' HO325.out).2.2 | (with_reducible refine Kd.C_alloc ?_ _) | (with_reducible refine Kd.C_drewN ?_ _) | (with_reducible refine Kd.C_drew ?_))); (case side2 => exact (Kd.R_reads' HO325.out).2.1); (case side3 => repeat (first | exact (Kd.C_below HR2_2.out HB.out) | (with_reducible refine Kd.C_alloc ?_ _) | (with_reducible refine Kd.C_drewN ?_ _) | (with_reducible refine Kd.C_drew ?_))); (case side4 => exact HC2_2.out); rintro e w118 ⟨rfl, hb⟩; have n0_ := Aside0.mk (Kd.R_below (by (with_reducible repeat (first | apply Kd.R_alloc | apply Kd.R_drewN | apply Kd.R_drew)); exact HO_11.out) hb); have n1_ := Aside0.mk (Kd.R_below (by (with_reducible repeat (first | apply Kd.R_alloc | apply Kd.R_drewN | apply Kd.R_drew)); exact HO_13.out) hb); have n2_ := Aside0.mk (Kd.R_below (by (with_reducible repeat (first | apply Kd.R_alloc | apply Kd.R_drewN | apply Kd.R_drew)); exact HO313.out) hb); have n3_ := Aside0.mk (Kd.R_below (by (with_reducible repeat (first | apply Kd.R_alloc | apply Kd.R_drewN | apply Kd.R_drew)); exact HO318.out) hb); have n4_ := Aside0.mk (Kd.R_below (by (with_reducible repeat (first | apply Kd.R_alloc | apply Kd.R_drewN | apply Kd.R_drew)); exact HO325.out) hb); have n5_ := Aside0.mk (blk_below (g := gb283) (o := .cells #[.int .u16 a2_0, .int .u16 a2_1, .slice A2_2 l2_2.length c2_2] 80 (0, 0)) (by (with_reducible repeat (first | refine blk_drewN ?_ _ | refine blk_drew ?_ | refine blk_alloc ?_ _)); exact BK283.out) hb); have n6_ := Aside0.mk (blk_below (g := gb320) (o := .cells #[.int .u16 t314, .int .u16 t315, .slice Ao105 t316.length co105] 80 (0, 0)) (by (with_reducible repeat (first | refine blk_drewN ?_ _ | refine blk_drew ?_ | refine blk_alloc ?_ _)); exact BK320.out) hb); have n7_ := Aside0.mk (blk_below (g := gb327) (o := .cells #[.int .u16 t321, .int .u16 t322, .slice Ao112 t323.length co112] 80 (0, 0)) (by (with_reducible repeat (first | refine blk_drewN ?_ _ | refine blk_drew ?_ | refine blk_alloc ?_ _)); exact BK327.out) hb); have n8_ := Aside0.mk (below_step (by repeat (first | (with_reducible first | exact HB.out | apply below_alloc | apply pw_below_drewN | apply below_drew1 | refine below_set ?_ GE283.out | refine below_set ?_ GE320.out | refine below_set ?_ GE327.out) | exact HB.out)) hb); clear HO_11; clear HO_13; clear HO313; clear HO318; clear HO325; clear BK283; clear BK320; clear BK327; clear HB; have HO_11 := n0_; have HO_13 := n1_; have HO313 := n2_; have HO318 := n3_; have HO325 := n4_; have BK283 := n5_; have BK320 := n6_; have BK327 := n7_; have HB := n8_; clear n0_ n1_ n2_ n3_ n4_ n5_ n6_ n7_ n8_; (try clear hb); (try clear hb2); (try clear hk); (try clear hi); have hcz119_0 : w118.cell? ⟨gb320, 0, none⟩ = some (.int .u16 t314) := (blk_cell BK320.out 0).trans rfl; have hcz119_1 : w118.cell? ⟨gb320, 1, none⟩ = some (.int .u16 t315) := (blk_cell BK320.out 1).trans rfl; have hcz119_2 : w118.cell? ⟨gb320, 2, none⟩ = some (.slice Ao105 t316.length co105) := (blk_cell BK320.out 2).trans rfl; have hfz119_0 := blk_frozen BK320.out 0; have hfz119_1 := blk_frozen BK320.out 1; have hfz119_2 := blk_frozen BK320.out 2; have hcz120_0 : w118.cell? ⟨gb327, 0, none⟩ = some (.int .u16 t321) := (blk_cell BK327.out 0).trans rfl; have hcz120_1 : w118.cell? ⟨gb327, 1, none⟩ = some (.int .u16 t322) := (blk_cell BK327.out 1).trans rfl; have hcz120_2 : w118.cell? ⟨gb327, 2, none⟩ = some (.slice Ao112 t323.length co112) := (blk_cell BK327.out 2).trans rfl; have hfz120_0 := blk_frozen BK327.out 0; have hfz120_1 := blk_frozen BK327.out 1; have hfz120_2 := blk_frozen BK327.out 2) | (go_at_call 63; (with_reducible refine (gram_Same.calls t314 t315 _ _ t316 t321 t322 _ _ t323 true _ ?side1 ?side2 ?side3 ?side4 A92.out).mono ?_); (case side1 => repeat (first | exact (Kd.R_reads' HO318.out).2.2 | (with_reducible refine Kd.C_alloc ?_ _) | (with_reducible refine Kd.C_drewN ?_ _) | (with_reducible refine Kd.C_drew ?_))); (case side2 => exact (Kd.R_reads' HO318.out).2.1); (case side3 => repeat (first | exact (Kd.R_reads' HO325.out).2.2 | (with_reducible refine Kd.C_alloc ?_ _) | (with_reducible refine Kd.C_drewN ?_ _) | (with_reducible refine Kd.C_drew ?_))); (case side4 => exact (Kd.R_reads' HO325.out).2.1); rintro e w121 ⟨rfl, hb⟩; have n0_ := Aside0.mk (Kd.R_below (by (with_reducible repeat (first | apply Kd.R_alloc | apply Kd.R_drewN | apply Kd.R_drew)); exact HO_11.out) hb); have n1_ := Aside0.mk (Kd.R_below (by (with_reducible repeat (first | apply Kd.R_alloc | apply Kd.R_drewN | apply Kd.R_drew)); exact HO_13.out) hb); have n2_ := Aside0.mk (Kd.R_below (by (with_reducible repeat (first | apply Kd.R_alloc | apply Kd.R_drewN | apply Kd.R_drew)); exact HO313.out) hb); have n3_ := Aside0.mk (Kd.R_below (by (with_reducible repeat (first | apply Kd.R_alloc | apply Kd.R_drewN | apply Kd.R_drew)); exact HO318.out) hb); have n4_ := Aside0.mk (Kd.R_below (by (with_reducible repeat (first | apply Kd.R_alloc | apply Kd.R_drewN | apply Kd.R_drew)); exact HO325.out) hb); have n5_ := Aside0.mk (blk_below (g := gb283) (o := .cells #[.int .u16 a2_0, .int .u16 a2_1, .slice A2_2 l2_2.length c2_2] 80 (0, 0)) (by (with_reducible repeat (first | refine blk_drewN ?_ _ | refine blk_drew ?_ | refine blk_alloc ?_ _)); exact BK283.out) hb); have n6_ := Aside0.mk (blk_below (g := gb320) (o := .cells #[.int .u16 t314, .int .u16 t315, .slice Ao105 t316.length co105] 80 (0, 0)) (by (with_reducible repeat (first | refine blk_drewN ?_ _ | refine blk_drew ?_ | refine blk_alloc ?_ _)); exact BK320.out) hb); have n7_ := Aside0.mk (blk_below (g := gb327) (o := .cells #[.int .u16 t321, .int .u16 t322, .slice Ao112 t323.length co112] 80 (0, 0)) (by (with_reducible repeat (first | refine blk_drewN ?_ _ | refine blk_drew ?_ | refine blk_alloc ?_ _)); exact BK327.out) hb); have n8_ := Aside0.mk (below_step (by repeat (first | (with_reducible first | exact HB.out | apply below_alloc | apply pw_below_drewN | apply below_drew1 | refine below_set ?_ GE283.out | refine below_set ?_ GE320.out | refine below_set ?_ GE327.out) | exact HB.out)) hb); clear HO_11; clear HO_13; clear HO313; clear HO318; clear HO325; clear BK283; clear BK320; clear BK327; clear HB; have HO_11 := n0_; have HO_13 := n1_; have HO313 := n2_; have HO318 := n3_; have HO325 := n4_; have BK283 := n5_; have BK320 := n6_; have BK327 := n7_; have HB := n8_; clear n0_ n1_ n2_ n3_ n4_ n5_ n6_ n7_ n8_; (try clear hb); (try clear hb2); (try clear hk); (try clear hi)) | (go_at_call 45; (with_reducible refine (towropelaw08_live.calls kj50  t333 _ A94.out).mono ?_); rintro e w122 ⟨rfl, hb⟩; have n0_ := Aside0.mk (Kd.R_below (by (with_reducible repeat (first | apply Kd.R_alloc | apply Kd.R_drewN | apply Kd.R_drew)); exact HO_11.out) hb); have n1_ := Aside0.mk (Kd.R_below (by (with_reducible repeat (first | apply Kd.R_alloc | apply Kd.R_drewN | apply Kd.R_drew)); exact HO_13.out) hb); have n2_ := Aside0.mk (Kd.R_below (by (with_reducible repeat (first | apply Kd.R_alloc | apply Kd.R_drewN | apply Kd.R_drew)); exact HO313.out) hb); have n3_ := Aside0.mk (Kd.R_below (by (with_reducible repeat (first | apply Kd.R_alloc | apply Kd.R_drewN | apply Kd.R_drew)); exact HO318.out) hb); have n4_ := Aside0.mk (Kd.R_below (by (with_reducible repeat (first | apply Kd.R_alloc | apply Kd.R_drewN | apply Kd.R_drew)); exact HO325.out) hb); have n5_ := Aside0.mk (blk_below (g := gb283) (o := .cells #[.int .u16 a2_0, .int .u16 a2_1, .slice A2_2 l2_2.length c2_2] 80 (0, 0)) (by (with_reducible repeat (first | refine blk_drewN ?_ _ | refine blk_drew ?_ | refine blk_alloc ?_ _)); exact BK283.out) hb); have n6_ := Aside0.mk (blk_below (g := gb320) (o := .cells #[.int .u16 t314, .int .u16 t315, .slice Ao105 t316.length co105] 80 (0, 0)) (by (with_reducible repeat (first | refine blk_drewN ?_ _ | refine blk_drew ?_ | refine blk_alloc ?_ _)); exact BK320.out) hb); have n7_ := Aside0.mk (blk_below (g := gb327) (o := .cells #[.int .u16 t321, .int .u16 t322, .slice Ao112 t323.length co112] 80 (0, 0)) (by (with_reducible repeat (first | refine blk_drewN ?_ _ | refine blk_drew ?_ | refine blk_alloc ?_ _)); exact BK327.out) hb); have n8_ := Aside0.mk (below_step (by repeat (first | (with_reducible first | exact HB.out | apply below_alloc | apply pw_below_drewN | apply below_drew1 | refine below_set ?_ GE283.out | refine below_set ?_ GE320.out | refine below_set ?_ GE327.out) | exact HB.out)) hb); clear HO_11; clear HO_13; clear HO313; clear HO318; clear HO325; clear BK283; clear BK320; clear BK327; clear HB; have HO_11 := n0_; have HO_13 := n1_; have HO313 := n2_; have HO318 := n3_; have HO325 := n4_; have BK283 := n5_; have BK320 := n6_; have BK327 := n7_; have HB := n8_; clear n0_ n1_ n2_ n3_ n4_ n5_ n6_ n7_ n8_; (try clear hb); (try clear hb2); (try clear hk); (try clear hi)))
              go_ret
              exact ⟨by first | rfl | (simp [errW_none, errW_some] <;> rfl) | (simp [*, errW_none, errW_some] <;> rfl), by repeat (first | (with_reducible first | exact HB.out | apply below_alloc | apply pw_below_drewN | apply below_drew1 | refine below_set ?_ GE283.out | refine below_set ?_ GE320.out | refine below_set ?_ GE327.out) | exact HB.out)⟩
             ·
              replace c93 := Bool.eq_false_iff.mpr c93
              subst c93
              have H1 : (some false) = some r := by rw [if_neg (show ¬ (false = true) by decide)] at H; exact H
              clear H
              have H := H1
              clear H1
              exact absurd ((Option.some.inj H).trans HRT.out) (by decide)
            ·
             replace c91 := Bool.eq_false_iff.mpr c91
             subst c91
             have H1 : (some false) = some r := by rw [if_neg (show ¬ (false = true) by decide)] at H; exact H
             clear H
             have H := H1
             clear H1
             exact absurd ((Option.some.inj H).trans HRT.out) (by decide)
           ·
            replace c89 := Bool.eq_false_iff.mpr c89
            subst c89
            have H1 : (some false) = some r := by rw [if_neg (show ¬ (false = true) by decide)] at H; exact H
            clear H
            have H := H1
            clear H1
            exact absurd ((Option.some.inj H).trans HRT.out) (by decide)
          ·
           rw [if_neg c87] at H
           have c87b0 : ((wrap64 (t328 + t329)) == 0) = false := beq_eq_false_iff_ne.mpr c87
           have c87b1 : ((wrap64 (t328 + t329)) != 0) = true := bne_iff_ne.mpr c87
           exact absurd ((Option.some.inj H).trans HRT.out) (by decide)
         ·
          rw [if_neg c82] at H
          exact absurd H (by simp)
        ·
         rw [if_neg c81] at H
         exact absurd H (by simp)

end Go.Proofs.Ytfmfpofbefgbgaa.PGramP
