-- Laid by a program of this session (wip/tools/mk.py) over the kit's print: functions, contracts, walks; not written by hand, not trusted: Lean checks it.
import Derived.Test.YtfmfpofbefgbgaaPGramTx0
import Derived.Test.YtfmfpofbefgbgaaPGramTx1
import Derived.Test.YtfmfpofbefgbgaaPGramTx3
namespace Go.Proofs.Ytfmfpofbefgbgaa.PGramT
open Go.RowKit Go.Proofs.YtfmfpofbefgbgaaW.PrintWords Go.Proofs.YtfmfpofbefgbgaaW.PrintLast Go.Proofs.YtfmfpofbefgbgaaW.PrintMore
attribute [local go_sem] max2_int min2_int max_two min_two max_three min_three max_four min_four   -- for this text's walks alone
set_option linter.unusedVariables false
set_option linter.unusedSimpArgs false

/-! ### towropelaw08_GramTurned: function 13 -/
mutual
def towropelaw08_GramTurned.j0 : Nat → Int → Int → Int → Int → Bool → Int → Int → List Int → Option (Bool)
 | 0, _, _, _, _, _, _, _, _ => none
 | k + 1, x0, x1, x3, x4, x28, x203000, x203001, x203002 => if x28 = true then ((towropelaw08_live.f k).bind fun t203 => (some t203)) else ((gram_Put.f k x0 x1 x203000 x203001 x203002).bind fun bt204 => ((towropelaw08_code.f bt204.2).bind fun t208 => (if t208 = 0 then (towropelaw08_GramTurned.j1 k x3 x4 x0 x1 bt204.1 ((bt204.1.length : Int) != (wrap64 (8 + (x203002.length : Int)))) x203000 x203001 x203002) else (towropelaw08_GramTurned.j1 k x3 x4 x0 x1 bt204.1 true x203000 x203001 x203002))))
def towropelaw08_GramTurned.j1 : Nat → Int → Int → Int → Int → List Int → Bool → Int → Int → List Int → Option (Bool)
 | 0, _, _, _, _, _, _, _, _, _ => none
 | k + 1, x3, x4, x11, x12, x13, x50, x203000, x203001, x203002 => if x50 = true then (some false) else (if (wrap64 ((x203002.length : Int) / 2)) = 0 then (none) else (if 0 ≤ (wrap64 (8 + (wrap64 ((Int.tmod (wrap64 (x3)) (wrap64 ((x203002.length : Int) / 2))) * 2)))) then (if (wrap64 (8 + (wrap64 ((Int.tmod (wrap64 (x3)) (wrap64 ((x203002.length : Int) / 2))) * 2)))) < (x13.length : Int) then (if 0 ≤ (wrap64 (9 + (wrap64 ((Int.tmod (wrap64 (x3)) (wrap64 ((x203002.length : Int) / 2))) * 2)))) then (if (wrap64 (9 + (wrap64 ((Int.tmod (wrap64 (x3)) (wrap64 ((x203002.length : Int) / 2))) * 2)))) < (x13.length : Int) then ((gram_Get.f k x11 x12 ((x13.set ((wrap64 (8 + (wrap64 ((Int.tmod (wrap64 (x3)) (wrap64 ((x203002.length : Int) / 2))) * 2)))) : Int).toNat ((IntKind.u16.wrap (Int.tdiv x4 256)) % 256)).set ((wrap64 (9 + (wrap64 ((Int.tmod (wrap64 (x3)) (wrap64 ((x203002.length : Int) / 2))) * 2)))) : Int).toNat ((Int.tmod x4 256) % 256))).bind fun bt213 => (if (wrap64 ((wrap64 (256 * (wrap64 (rd x13 (wrap64 (8 + (wrap64 ((Int.tmod (wrap64 (x3)) (wrap64 ((x203002.length : Int) / 2))) * 2)))))))) + (wrap64 (rd x13 (wrap64 (9 + (wrap64 ((Int.tmod (wrap64 (x3)) (wrap64 ((x203002.length : Int) / 2))) * 2)))))))) = (wrap64 (x4)) then (towropelaw08_GramTurned.j2 k bt213.2.2.2 true x203000 x203001 x203002 bt213.1 bt213.2.1 bt213.2.2.1) else (if (wrap64 ((wrap64 ((wrap64 (256 * (wrap64 (rd x13 (wrap64 (8 + (wrap64 ((Int.tmod (wrap64 (x3)) (wrap64 ((x203002.length : Int) / 2))) * 2)))))))) + (wrap64 (rd x13 (wrap64 (9 + (wrap64 ((Int.tmod (wrap64 (x3)) (wrap64 ((x203002.length : Int) / 2))) * 2)))))))) + (wrap64 (x4)))) = 65535 then (towropelaw08_GramTurned.j2 k bt213.2.2.2 ((wrap64 ((wrap64 ((wrap64 (256 * (wrap64 (rd x13 (wrap64 (8 + (wrap64 ((Int.tmod (wrap64 (x3)) (wrap64 ((x203002.length : Int) / 2))) * 2)))))))) + (wrap64 (rd x13 (wrap64 (9 + (wrap64 ((Int.tmod (wrap64 (x3)) (wrap64 ((x203002.length : Int) / 2))) * 2)))))))) * (wrap64 (x4)))) == 0) x203000 x203001 x203002 bt213.1 bt213.2.1 bt213.2.2.1) else (towropelaw08_GramTurned.j2 k bt213.2.2.2 false x203000 x203001 x203002 bt213.1 bt213.2.1 bt213.2.2.1)))) else (none)) else (none)) else (none)) else (none)))
def towropelaw08_GramTurned.j2 : Nat → Int → Bool → Int → Int → List Int → Int → Int → List Int → Option (Bool)
 | 0, _, _, _, _, _, _, _, _ => none
 | k + 1, x18, x111, x203000, x203001, x203002, x220000, x220001, x220002 => if x111 = true then ((towropelaw08_code.f x18).bind fun t220 => (if t220 = 0 then (if (x220002.length : Int) = (x203002.length : Int) then ((towropelaw08_live.f k).bind fun t221 => (some t221)) else (some false)) else (some false))) else ((towropelaw08_code.f x18).bind fun t222 => (if t222 = 4 then (if (x220002.length : Int) = 0 then ((towropelaw08_live.f k).bind fun t223 => (some t223)) else (some false)) else (some false)))
end
def towropelaw08_GramTurned.f (k : Nat) (a0 : Int) (a1 : Int) (a2_0 : Int) (a2_1 : Int) (l2_2 : List Int) (a3 : Int) (a4 : Int) : Option (Bool) := if (l2_2.length : Int) > 1000 then (towropelaw08_GramTurned.j0 k a0 a1 a3 a4 true a2_0 a2_1 l2_2) else (towropelaw08_GramTurned.j0 k a0 a1 a3 a4 (decide ((l2_2.length : Int) < 2)) a2_0 a2_1 l2_2)
theorem towropelaw08_GramTurned.mono_l : ∀ k, (∀ y0 y1 y2 y3 y4 y5 y6 y7, LeO (towropelaw08_GramTurned.j0 k y0 y1 y2 y3 y4 y5 y6 y7) (towropelaw08_GramTurned.j0 (k + 1) y0 y1 y2 y3 y4 y5 y6 y7)) ∧ (∀ y0 y1 y2 y3 y4 y5 y6 y7 y8, LeO (towropelaw08_GramTurned.j1 k y0 y1 y2 y3 y4 y5 y6 y7 y8) (towropelaw08_GramTurned.j1 (k + 1) y0 y1 y2 y3 y4 y5 y6 y7 y8)) ∧ (∀ y0 y1 y2 y3 y4 y5 y6 y7, LeO (towropelaw08_GramTurned.j2 k y0 y1 y2 y3 y4 y5 y6 y7) (towropelaw08_GramTurned.j2 (k + 1) y0 y1 y2 y3 y4 y5 y6 y7))
 | 0 => ⟨fun _ _ _ _ _ _ _ _ r h => by simp [towropelaw08_GramTurned.j0] at h, fun _ _ _ _ _ _ _ _ _ r h => by simp [towropelaw08_GramTurned.j1] at h, fun _ _ _ _ _ _ _ _ r h => by simp [towropelaw08_GramTurned.j2] at h⟩
 | k + 1 => by
  obtain ⟨ih0, ih1, ih2⟩ := towropelaw08_GramTurned.mono_l k
  refine ⟨?_, ?_, ?_⟩
  ·
   intro y0 y1 y2 y3 y4 y5 y6 y7
   unfold towropelaw08_GramTurned.j0
   repeat' first
   | (with_reducible exact ih0 _ _ _ _ _ _ _ _)
   | (with_reducible exact ih1 _ _ _ _ _ _ _ _ _)
   | (with_reducible exact ih2 _ _ _ _ _ _ _ _)
   | (with_reducible exact gram_Get.mono _ _ _ _)
   | (with_reducible exact gram_Put.mono _ _ _ _ _ _)
   | (with_reducible exact towropelaw08_live.mono _)
   | (with_reducible exact LeO.refl _)
   | (with_reducible exact LeO.none _)
   | (with_reducible refine LeO.ite ?_ ?_)
   | (with_reducible refine LeO.bind ?_ (fun _ => ?_))
   | exact ih0 _ _ _ _ _ _ _ _
   | exact ih1 _ _ _ _ _ _ _ _ _
   | exact ih2 _ _ _ _ _ _ _ _
   | exact gram_Get.mono _ _ _ _
   | exact gram_Put.mono _ _ _ _ _ _
   | exact towropelaw08_live.mono _
   | exact LeO.none _
   | refine LeO.ite ?_ ?_
   | refine LeO.bind ?_ (fun _ => ?_)
  ·
   intro y0 y1 y2 y3 y4 y5 y6 y7 y8
   unfold towropelaw08_GramTurned.j1
   repeat' first
   | (with_reducible exact ih0 _ _ _ _ _ _ _ _)
   | (with_reducible exact ih1 _ _ _ _ _ _ _ _ _)
   | (with_reducible exact ih2 _ _ _ _ _ _ _ _)
   | (with_reducible exact gram_Get.mono _ _ _ _)
   | (with_reducible exact gram_Put.mono _ _ _ _ _ _)
   | (with_reducible exact towropelaw08_live.mono _)
   | (with_reducible exact LeO.refl _)
   | (with_reducible exact LeO.none _)
   | (with_reducible refine LeO.ite ?_ ?_)
   | (with_reducible refine LeO.bind ?_ (fun _ => ?_))
   | exact ih0 _ _ _ _ _ _ _ _
   | exact ih1 _ _ _ _ _ _ _ _ _
   | exact ih2 _ _ _ _ _ _ _ _
   | exact gram_Get.mono _ _ _ _
   | exact gram_Put.mono _ _ _ _ _ _
   | exact towropelaw08_live.mono _
   | exact LeO.none _
   | refine LeO.ite ?_ ?_
   | refine LeO.bind ?_ (fun _ => ?_)
  ·
   intro y0 y1 y2 y3 y4 y5 y6 y7
   unfold towropelaw08_GramTurned.j2
   repeat' first
   | (with_reducible exact ih0 _ _ _ _ _ _ _ _)
   | (with_reducible exact ih1 _ _ _ _ _ _ _ _ _)
   | (with_reducible exact ih2 _ _ _ _ _ _ _ _)
   | (with_reducible exact gram_Get.mono _ _ _ _)
   | (with_reducible exact gram_Put.mono _ _ _ _ _ _)
   | (with_reducible exact towropelaw08_live.mono _)
   | (with_reducible exact LeO.refl _)
   | (with_reducible exact LeO.none _)
   | (with_reducible refine LeO.ite ?_ ?_)
   | (with_reducible refine LeO.bind ?_ (fun _ => ?_))
   | exact ih0 _ _ _ _ _ _ _ _
   | exact ih1 _ _ _ _ _ _ _ _ _
   | exact ih2 _ _ _ _ _ _ _ _
   | exact gram_Get.mono _ _ _ _
   | exact gram_Put.mono _ _ _ _ _ _
   | exact towropelaw08_live.mono _
   | exact LeO.none _
   | refine LeO.ite ?_ ?_
   | refine LeO.bind ?_ (fun _ => ?_)
theorem towropelaw08_GramTurned.mono : ∀ a0 a1 a2 a3 a4 a5 a6 k, LeO (towropelaw08_GramTurned.f k a0 a1 a2 a3 a4 a5 a6) (towropelaw08_GramTurned.f (k + 1) a0 a1 a2 a3 a4 a5 a6) := by
 intro a0 a1 a2 a3 a4 a5 a6 k
 obtain ⟨ih0, ih1, ih2⟩ := towropelaw08_GramTurned.mono_l k
 unfold towropelaw08_GramTurned.f
 repeat' first
   | (with_reducible exact ih0 _ _ _ _ _ _ _ _)
   | (with_reducible exact ih1 _ _ _ _ _ _ _ _ _)
   | (with_reducible exact ih2 _ _ _ _ _ _ _ _)
   | (with_reducible exact gram_Get.mono _ _ _ _)
   | (with_reducible exact gram_Put.mono _ _ _ _ _ _)
   | (with_reducible exact towropelaw08_live.mono _)
   | (with_reducible exact LeO.refl _)
   | (with_reducible exact LeO.none _)
   | (with_reducible refine LeO.ite ?_ ?_)
   | (with_reducible refine LeO.bind ?_ (fun _ => ?_))
   | exact ih0 _ _ _ _ _ _ _ _
   | exact ih1 _ _ _ _ _ _ _ _ _
   | exact ih2 _ _ _ _ _ _ _ _
   | exact gram_Get.mono _ _ _ _
   | exact gram_Put.mono _ _ _ _ _ _
   | exact towropelaw08_live.mono _
   | exact LeO.none _
   | refine LeO.ite ?_ ?_
   | refine LeO.bind ?_ (fun _ => ?_)
set_option maxHeartbeats 8000000 in
set_option maxRecDepth 100000 in
theorem towropelaw08_GramTurned.calls (k : Nat) (a0 : Int) (a1 : Int) (a2_0 : Int) (a2_1 : Int) (A2_2 : Option Addr) (c2_2 : Nat) (l2_2 : List Int) (a3 : Int) (a4 : Int) (r : Bool) (hrt : r = true) (w : World) (hr2_2 : Kd.C (Kd.int .u8) w A2_2 l2_2.length l2_2) (hc2_2 : l2_2.length ≤ c2_2) (h : towropelaw08_GramTurned.f k a0 a1 a2_0 a2_1 l2_2 a3 a4 = some r) :
  Calls Try.prog 13 #[.int .u32 a0, .int .u32 a1, .agg #[.int .u16 a2_0, .int .u16 a2_1, .slice A2_2 l2_2.length c2_2], .int .u16 a3, .int .u16 a4] w fun e w' => e = .returned (.bool r) ∧ Below w.heap.size w w' := by
 have HRT := Aside0.mk hrt
 clear hrt
 have hu80 := Try.underlying80
 have HR2_2 := Aside0.mk hr2_2
 have HC2_2 := Aside0.mk hc2_2
 clear hr2_2 hc2_2
 have HB := Aside0.mk (Below.refl w.heap.size w)
 have H : (if (l2_2.length : Int) > 1000 then (towropelaw08_GramTurned.j0 k a0 a1 a3 a4 true a2_0 a2_1 l2_2) else (towropelaw08_GramTurned.j0 k a0 a1 a3 a4 (decide ((l2_2.length : Int) < 2)) a2_0 a2_1 l2_2)) = some r := h
 clear h
 have HC6 := Aside0.mk H
 clear H
 go_enter Try.func13, Try.ntmps13
 go_upto_region 1 with (first | ((with_reducible refine gate_dst (N := 7) rfl ?_); (try (refine gate_guard (by rfl) ?_; dsimp only)); refine box_event ?hg (N := 7) ?hd (cs := #[.int .u16 a2_0, .int .u16 a2_1, .slice A2_2 l2_2.length c2_2]) (t := 80) ?hr ?_; (case hd => rfl); (case hg => rfl); (case hr => first | (go_simp; done) | (go_simp; rfl)); intro gb202 hg w7 hbox hb; have n0_ := Aside0.mk (below_step (by repeat (first | (with_reducible first | exact HB.out | apply below_alloc | apply pw_below_drewN | apply below_drew1) | exact HB.out)) hb); have n1_ := Aside0.mk (hbox); have n2_ := Aside0.mk ((by rw [hg]; exact (below_size (by repeat (first | (with_reducible first | exact HB.out | apply below_alloc | apply pw_below_drewN | apply below_drew1) | exact HB.out))) : w.heap.size ≤ gb202)); have n3_ := Aside0.mk ((by rw [hg]; exact (below_size (by repeat (first | (with_reducible first | exact HB.out | apply below_alloc | apply pw_below_drewN | apply below_drew1) | exact HB.out))) : w.heap.size ≤ gb202)); clear HB; have HB := n0_; have BK202 := n1_; have GW202 := n2_; have GE202 := n3_; clear n0_ n1_ n2_ n3_; clear hb hbox hg))
 repeat (go_quiet (first | ((with_reducible refine gate_dst (N := 7) rfl ?_); (try (refine gate_guard (by rfl) ?_; dsimp only)); refine box_event ?hg (N := 7) ?hd (cs := #[.int .u16 a2_0, .int .u16 a2_1, .slice A2_2 l2_2.length c2_2]) (t := 80) ?hr ?_; (case hd => rfl); (case hg => rfl); (case hr => first | (go_simp; done) | (go_simp; rfl)); intro gb202 hg w7 hbox hb; have n0_ := Aside0.mk (below_step (by repeat (first | (with_reducible first | exact HB.out | apply below_alloc | apply pw_below_drewN | apply below_drew1) | exact HB.out)) hb); have n1_ := Aside0.mk (hbox); have n2_ := Aside0.mk ((by rw [hg]; exact (below_size (by repeat (first | (with_reducible first | exact HB.out | apply below_alloc | apply pw_below_drewN | apply below_drew1) | exact HB.out))) : w.heap.size ≤ gb202)); have n3_ := Aside0.mk ((by rw [hg]; exact (below_size (by repeat (first | (with_reducible first | exact HB.out | apply below_alloc | apply pw_below_drewN | apply below_drew1) | exact HB.out))) : w.heap.size ≤ gb202)); clear HB; have HB := n0_; have BK202 := n1_; have GW202 := n2_; have GE202 := n3_; clear n0_ n1_ n2_ n3_; clear hb hbox hg)); go_upto_region 1 with (first | ((with_reducible refine gate_dst (N := 7) rfl ?_); (try (refine gate_guard (by rfl) ?_; dsimp only)); refine box_event ?hg (N := 7) ?hd (cs := #[.int .u16 a2_0, .int .u16 a2_1, .slice A2_2 l2_2.length c2_2]) (t := 80) ?hr ?_; (case hd => rfl); (case hg => rfl); (case hr => first | (go_simp; done) | (go_simp; rfl)); intro gb202 hg w7 hbox hb; have n0_ := Aside0.mk (below_step (by repeat (first | (with_reducible first | exact HB.out | apply below_alloc | apply pw_below_drewN | apply below_drew1) | exact HB.out)) hb); have n1_ := Aside0.mk (hbox); have n2_ := Aside0.mk ((by rw [hg]; exact (below_size (by repeat (first | (with_reducible first | exact HB.out | apply below_alloc | apply pw_below_drewN | apply below_drew1) | exact HB.out))) : w.heap.size ≤ gb202)); have n3_ := Aside0.mk ((by rw [hg]; exact (below_size (by repeat (first | (with_reducible first | exact HB.out | apply below_alloc | apply pw_below_drewN | apply below_drew1) | exact HB.out))) : w.heap.size ≤ gb202)); clear HB; have HB := n0_; have BK202 := n1_; have GW202 := n2_; have GE202 := n3_; clear n0_ n1_ n2_ n3_; clear hb hbox hg)))
 (try simp only [Act.put, List.setIfInBounds_toArray, List.set_cons_zero, List.set_cons_succ])
 go_cut [28] (fun v28 wc => ∃ (kq : Nat) (x28_5 : Bool), v28 = .bool x28_5 ∧ Aside0 (towropelaw08_GramTurned.j0 kq a0 a1 a3 a4 x28_5 a2_0 a2_1 l2_2 = some r) ∧ Aside0 (kq ≤ k) ∧ Aside0 (wc.heap[gb202]? = some (.cells #[.int .u16 a2_0, .int .u16 a2_1, (.slice A2_2 l2_2.length c2_2)] 80 (0, 0))) ∧ Aside0 (Below w.heap.size w wc))
 case first =>
  have H := HC6.out
  clear HC6
  by_cases c8 : (l2_2.length : Int) > 1000
  ·
   rw [if_pos c8] at H
   have c8b0 : decide (1000 < (l2_2.length : Int)) = true := decide_eq_true c8
   have c8b1 : decide (1000 < l2_2.length) = true := decide_eq_true (by omega)
   clear c8
   (first | rw [c8b0] | (simp only [i64_w, i32_w]; rw [c8b0]) | skip)
   have H' := Aside0.mk H
   clear H
   have hcz9_0 : w7.cell? ⟨gb202, 0, none⟩ = some (.int .u16 a2_0) := (blk_cell BK202.out 0).trans rfl
   have hcz9_1 : w7.cell? ⟨gb202, 1, none⟩ = some (.int .u16 a2_1) := (blk_cell BK202.out 1).trans rfl
   have hcz9_2 : w7.cell? ⟨gb202, 2, none⟩ = some (.slice A2_2 l2_2.length c2_2) := (blk_cell BK202.out 2).trans rfl
   have hfz9_0 := blk_frozen BK202.out 0
   have hfz9_1 := blk_frozen BK202.out 1
   have hfz9_2 := blk_frozen BK202.out 2
   go_wp2
   repeat (go_quiet (fail); try go_wp2)
   go_meet
   case rel => exact ⟨_, (true), (by first | rfl | (simp; done) | (simp [*]; done)), H', ⟨by first | omega | exact Nat.le_refl _⟩, ⟨by (with_reducible repeat (first | refine blk_drewN ?_ _ | refine blk_drew ?_ | refine blk_alloc ?_ _)); exact BK202.out⟩, ⟨by repeat (first | (with_reducible first | exact HB.out | apply below_alloc | apply pw_below_drewN | apply below_drew1 | refine below_set ?_ GE202.out) | exact HB.out)⟩⟩
  ·
   rw [if_neg c8] at H
   have c8b0 : decide (1000 < (l2_2.length : Int)) = false := decide_eq_false c8
   have c8b1 : decide (1000 < l2_2.length) = false := decide_eq_false (by omega)
   clear c8
   (first | rw [c8b0] | (simp only [i64_w, i32_w]; rw [c8b0]) | skip)
   have H' := Aside0.mk H
   clear H
   have hcz10_0 : w7.cell? ⟨gb202, 0, none⟩ = some (.int .u16 a2_0) := (blk_cell BK202.out 0).trans rfl
   have hcz10_1 : w7.cell? ⟨gb202, 1, none⟩ = some (.int .u16 a2_1) := (blk_cell BK202.out 1).trans rfl
   have hcz10_2 : w7.cell? ⟨gb202, 2, none⟩ = some (.slice A2_2 l2_2.length c2_2) := (blk_cell BK202.out 2).trans rfl
   have hfz10_0 := blk_frozen BK202.out 0
   have hfz10_1 := blk_frozen BK202.out 1
   have hfz10_2 := blk_frozen BK202.out 2
   go_wp2
   repeat (go_quiet (fail); try go_wp2)
   go_meet
   case rel => exact ⟨_, (decide ((l2_2.length : Int) < 2)), (by first | rfl | (simp; done) | (simp [*]; done)), H', ⟨by first | omega | exact Nat.le_refl _⟩, ⟨by (with_reducible repeat (first | refine blk_drewN ?_ _ | refine blk_drew ?_ | refine blk_alloc ?_ _)); exact BK202.out⟩, ⟨by repeat (first | (with_reducible first | exact HB.out | apply below_alloc | apply pw_below_drewN | apply below_drew1 | refine below_set ?_ GE202.out) | exact HB.out)⟩⟩
 case rest =>
  clear HC6
  try clear c1
  try clear c2
  try clear p2
  try clear c8
  try clear c8b0
  try clear c8b1
  try clear hcz10_0
  try clear hcz10_1
  try clear hcz10_2
  try clear hcz9_0
  try clear hcz9_1
  try clear hcz9_2
  try clear hfz10_0
  try clear hfz10_1
  try clear hfz10_2
  try clear hfz9_0
  try clear hfz9_1
  try clear hfz9_2
  obtain ⟨kq, x28_5, rfl, HA, HJ5, BK202, HB⟩ := hcut
  cases kq with
  | zero => exact absurd HA.out (by simp [towropelaw08_GramTurned.j0])
  | succ kj5 =>
   have H := HA.out
   clear HA
   simp only [towropelaw08_GramTurned.j0] at H
   by_cases c11 : x28_5 = true
   ·
    subst c11
    have H1 : ((towropelaw08_live.f kj5).bind fun t203 => (some t203)) = some r := by rw [if_pos rfl] at H; exact H
    clear H
    have H := H1
    clear H1
    replace H := Option.bind_eq_some_iff.mp H
    obtain ⟨t203, A120, H⟩ := H
    replace H : (some t203) = some r := H
    have A12 := Aside0.mk A120
    clear A120
    obtain rfl := Option.some.inj H
    go_wp2_with (first | (go_at_call 45; (with_reducible refine (towropelaw08_live.calls kj5  t203 _ A12.out).mono ?_); rintro e w13 ⟨rfl, hb⟩; have n0_ := Aside0.mk (blk_below (g := gb202) (o := .cells #[.int .u16 a2_0, .int .u16 a2_1, .slice A2_2 l2_2.length c2_2] 80 (0, 0)) (by (with_reducible repeat (first | refine blk_drewN ?_ _ | refine blk_drew ?_ | refine blk_alloc ?_ _)); exact BK202.out) hb); have n1_ := Aside0.mk (below_step (by repeat (first | (with_reducible first | exact HB.out | apply below_alloc | apply pw_below_drewN | apply below_drew1 | refine below_set ?_ GE202.out) | exact HB.out)) hb); clear BK202; clear HB; have BK202 := n0_; have HB := n1_; clear n0_ n1_; (try clear hb); (try clear hb2); (try clear hk); (try clear hi)))
    repeat (go_quiet (first | (go_at_call 45; (with_reducible refine (towropelaw08_live.calls kj5  t203 _ A12.out).mono ?_); rintro e w13 ⟨rfl, hb⟩; have n0_ := Aside0.mk (blk_below (g := gb202) (o := .cells #[.int .u16 a2_0, .int .u16 a2_1, .slice A2_2 l2_2.length c2_2] 80 (0, 0)) (by (with_reducible repeat (first | refine blk_drewN ?_ _ | refine blk_drew ?_ | refine blk_alloc ?_ _)); exact BK202.out) hb); have n1_ := Aside0.mk (below_step (by repeat (first | (with_reducible first | exact HB.out | apply below_alloc | apply pw_below_drewN | apply below_drew1 | refine below_set ?_ GE202.out) | exact HB.out)) hb); clear BK202; clear HB; have BK202 := n0_; have HB := n1_; clear n0_ n1_; (try clear hb); (try clear hb2); (try clear hk); (try clear hi))); try go_wp2_with (first | (go_at_call 45; (with_reducible refine (towropelaw08_live.calls kj5  t203 _ A12.out).mono ?_); rintro e w13 ⟨rfl, hb⟩; have n0_ := Aside0.mk (blk_below (g := gb202) (o := .cells #[.int .u16 a2_0, .int .u16 a2_1, .slice A2_2 l2_2.length c2_2] 80 (0, 0)) (by (with_reducible repeat (first | refine blk_drewN ?_ _ | refine blk_drew ?_ | refine blk_alloc ?_ _)); exact BK202.out) hb); have n1_ := Aside0.mk (below_step (by repeat (first | (with_reducible first | exact HB.out | apply below_alloc | apply pw_below_drewN | apply below_drew1 | refine below_set ?_ GE202.out) | exact HB.out)) hb); clear BK202; clear HB; have BK202 := n0_; have HB := n1_; clear n0_ n1_; (try clear hb); (try clear hb2); (try clear hk); (try clear hi))))
    go_ret
    exact ⟨by first | rfl | (simp [errW_none, errW_some] <;> rfl) | (simp [*, errW_none, errW_some] <;> rfl), by repeat (first | (with_reducible first | exact HB.out | apply below_alloc | apply pw_below_drewN | apply below_drew1 | refine below_set ?_ GE202.out) | exact HB.out)⟩
   ·
    replace c11 := Bool.eq_false_iff.mpr c11
    subst c11
    have H1 : ((gram_Put.f kj5 a0 a1 a2_0 a2_1 l2_2).bind fun bt204 => ((towropelaw08_code.f bt204.2).bind fun t208 => (if t208 = 0 then (towropelaw08_GramTurned.j1 kj5 a3 a4 a0 a1 bt204.1 ((bt204.1.length : Int) != (wrap64 (8 + (l2_2.length : Int)))) a2_0 a2_1 l2_2) else (towropelaw08_GramTurned.j1 kj5 a3 a4 a0 a1 bt204.1 true a2_0 a2_1 l2_2)))) = some r := by rw [if_neg (show ¬ (false = true) by decide)] at H; exact H
    clear H
    have H := H1
    clear H1
    replace H := Option.bind_eq_some_iff.mp H
    obtain ⟨⟨t204, t207⟩, A140, H⟩ := H
    replace H : ((towropelaw08_code.f t207).bind fun t208 => (if t208 = 0 then (towropelaw08_GramTurned.j1 kj5 a3 a4 a0 a1 t204 ((t204.length : Int) != (wrap64 (8 + (l2_2.length : Int)))) a2_0 a2_1 l2_2) else (towropelaw08_GramTurned.j1 kj5 a3 a4 a0 a1 t204 true a2_0 a2_1 l2_2))) = some r := H
    have A14 := Aside0.mk A140
    clear A140
    have HC15 := Aside0.mk H
    clear H
    have hcz16_0 : wc.cell? ⟨gb202, 0, none⟩ = some (.int .u16 a2_0) := (blk_cell BK202.out 0).trans rfl
    have hcz16_1 : wc.cell? ⟨gb202, 1, none⟩ = some (.int .u16 a2_1) := (blk_cell BK202.out 1).trans rfl
    have hcz16_2 : wc.cell? ⟨gb202, 2, none⟩ = some (.slice A2_2 l2_2.length c2_2) := (blk_cell BK202.out 2).trans rfl
    have hfz16_0 := blk_frozen BK202.out 0
    have hfz16_1 := blk_frozen BK202.out 1
    have hfz16_2 := blk_frozen BK202.out 2
    go_upto_region 5 with (first | (go_at_call 59; (with_reducible refine (gram_Put.calls kj5 a0 a1 a2_0 a2_1 _ _ l2_2 t204 t207 _ ?side1 ?side2 A14.out).mono ?_); (case side1 => repeat (first | exact (Kd.C_below HR2_2.out HB.out) | (with_reducible refine Kd.C_alloc ?_ _) | (with_reducible refine Kd.C_drewN ?_ _) | (with_reducible refine Kd.C_drew ?_))); (case side2 => exact HC2_2.out); rintro e w17 ⟨v205, rfl, ho0, hb⟩; have n0_ := Aside0.mk (Kd.R_lower ho0 (below_size (by repeat (first | (with_reducible first | exact HB.out | apply below_alloc | apply pw_below_drewN | apply below_drew1 | refine below_set ?_ GE202.out) | exact HB.out)))); have n1_ := Aside0.mk (blk_below (g := gb202) (o := .cells #[.int .u16 a2_0, .int .u16 a2_1, .slice A2_2 l2_2.length c2_2] 80 (0, 0)) (by (with_reducible repeat (first | refine blk_drewN ?_ _ | refine blk_drew ?_ | refine blk_alloc ?_ _)); exact BK202.out) hb); have n2_ := Aside0.mk (below_step (by repeat (first | (with_reducible first | exact HB.out | apply below_alloc | apply pw_below_drewN | apply below_drew1 | refine below_set ?_ GE202.out) | exact HB.out)) hb); clear BK202; clear HB; have HO206 := n0_; have BK202 := n1_; have HB := n2_; clear n0_ n1_ n2_; (try clear hb); (try clear hb2); (try clear hk); (try clear hi); (try clear ho0)))
    repeat (go_quiet (first | (go_at_call 59; (with_reducible refine (gram_Put.calls kj5 a0 a1 a2_0 a2_1 _ _ l2_2 t204 t207 _ ?side1 ?side2 A14.out).mono ?_); (case side1 => repeat (first | exact (Kd.C_below HR2_2.out HB.out) | (with_reducible refine Kd.C_alloc ?_ _) | (with_reducible refine Kd.C_drewN ?_ _) | (with_reducible refine Kd.C_drew ?_))); (case side2 => exact HC2_2.out); rintro e w17 ⟨v205, rfl, ho0, hb⟩; have n0_ := Aside0.mk (Kd.R_lower ho0 (below_size (by repeat (first | (with_reducible first | exact HB.out | apply below_alloc | apply pw_below_drewN | apply below_drew1 | refine below_set ?_ GE202.out) | exact HB.out)))); have n1_ := Aside0.mk (blk_below (g := gb202) (o := .cells #[.int .u16 a2_0, .int .u16 a2_1, .slice A2_2 l2_2.length c2_2] 80 (0, 0)) (by (with_reducible repeat (first | refine blk_drewN ?_ _ | refine blk_drew ?_ | refine blk_alloc ?_ _)); exact BK202.out) hb); have n2_ := Aside0.mk (below_step (by repeat (first | (with_reducible first | exact HB.out | apply below_alloc | apply pw_below_drewN | apply below_drew1 | refine below_set ?_ GE202.out) | exact HB.out)) hb); clear BK202; clear HB; have HO206 := n0_; have BK202 := n1_; have HB := n2_; clear n0_ n1_ n2_; (try clear hb); (try clear hb2); (try clear hk); (try clear hi); (try clear ho0))); go_upto_region 5 with (first | (go_at_call 59; (with_reducible refine (gram_Put.calls kj5 a0 a1 a2_0 a2_1 _ _ l2_2 t204 t207 _ ?side1 ?side2 A14.out).mono ?_); (case side1 => repeat (first | exact (Kd.C_below HR2_2.out HB.out) | (with_reducible refine Kd.C_alloc ?_ _) | (with_reducible refine Kd.C_drewN ?_ _) | (with_reducible refine Kd.C_drew ?_))); (case side2 => exact HC2_2.out); rintro e w17 ⟨v205, rfl, ho0, hb⟩; have n0_ := Aside0.mk (Kd.R_lower ho0 (below_size (by repeat (first | (with_reducible first | exact HB.out | apply below_alloc | apply pw_below_drewN | apply below_drew1 | refine below_set ?_ GE202.out) | exact HB.out)))); have n1_ := Aside0.mk (blk_below (g := gb202) (o := .cells #[.int .u16 a2_0, .int .u16 a2_1, .slice A2_2 l2_2.length c2_2] 80 (0, 0)) (by (with_reducible repeat (first | refine blk_drewN ?_ _ | refine blk_drew ?_ | refine blk_alloc ?_ _)); exact BK202.out) hb); have n2_ := Aside0.mk (below_step (by repeat (first | (with_reducible first | exact HB.out | apply below_alloc | apply pw_below_drewN | apply below_drew1 | refine below_set ?_ GE202.out) | exact HB.out)) hb); clear BK202; clear HB; have HO206 := n0_; have BK202 := n1_; have HB := n2_; clear n0_ n1_ n2_; (try clear hb); (try clear hb2); (try clear hk); (try clear hi); (try clear ho0))))
    (try simp only [Act.put, List.setIfInBounds_toArray, List.set_cons_zero, List.set_cons_succ])
    go_cut [50] (fun v50 wc => ∃ (kq : Nat) (x50_14 : Bool), v50 = .bool x50_14 ∧ Aside0 (towropelaw08_GramTurned.j1 kq a3 a4 a0 a1 t204 x50_14 a2_0 a2_1 l2_2 = some r) ∧ Aside0 (kq ≤ kj5) ∧ Aside0 (Kd.R (Kd.int .u8) 5 wc w.heap.size (fun _ => True) v205 t204) ∧ Aside0 (wc.heap[gb202]? = some (.cells #[.int .u16 a2_0, .int .u16 a2_1, (.slice A2_2 l2_2.length c2_2)] 80 (0, 0))) ∧ Aside0 (Below w.heap.size w wc))
    case first =>
     have H := HC15.out
     clear HC15
     replace H := Option.bind_eq_some_iff.mp H
     obtain ⟨t208, A180, H⟩ := H
     replace H : (if t208 = 0 then (towropelaw08_GramTurned.j1 kj5 a3 a4 a0 a1 t204 ((t204.length : Int) != (wrap64 (8 + (l2_2.length : Int)))) a2_0 a2_1 l2_2) else (towropelaw08_GramTurned.j1 kj5 a3 a4 a0 a1 t204 true a2_0 a2_1 l2_2)) = some r := H
     have A18 := Aside0.mk A180
     clear A180
     by_cases c19 : t208 = 0
     ·
      rw [if_pos c19] at H
      have c19b0 : (t208 == 0) = true := beq_iff_eq.mpr c19
      have c19b1 : (t208 != 0) = false := bne_eq_false_iff_eq.mpr c19
      clear c19
      (first | rw [c19b0] | (simp only [i64_w, i32_w]; rw [c19b0]) | skip)
      have H' := Aside0.mk H
      clear H
      go_wp2_with (first | (go_at_call 49; (with_reducible refine (towropelaw08_code.calls t207 t208 _ A18.out).mono ?_); rintro e w' ⟨rfl, ⟨nd, rfl⟩⟩; (try first | exact ⟨rfl, _, World.drewN_drewN _ _ _⟩ | exact ⟨rfl, _, Eq.trans (World.drewN_drewN _ _ _) (congrArg (World.drewN _) (Nat.add_assoc _ _ _))⟩); (try (obtain ⟨Ao20, co20, eo20⟩ := Kd.R_slice HO206.out; subst eo20)); have hcz21_0 : w17.cell? ⟨gb202, 0, none⟩ = some (.int .u16 a2_0) := (blk_cell BK202.out 0).trans rfl; have hcz21_1 : w17.cell? ⟨gb202, 1, none⟩ = some (.int .u16 a2_1) := (blk_cell BK202.out 1).trans rfl; have hcz21_2 : w17.cell? ⟨gb202, 2, none⟩ = some (.slice A2_2 l2_2.length c2_2) := (blk_cell BK202.out 2).trans rfl; have hfz21_0 := blk_frozen BK202.out 0; have hfz21_1 := blk_frozen BK202.out 1; have hfz21_2 := blk_frozen BK202.out 2))
      repeat (go_quiet (first | (go_at_call 49; (with_reducible refine (towropelaw08_code.calls t207 t208 _ A18.out).mono ?_); rintro e w' ⟨rfl, ⟨nd, rfl⟩⟩; (try first | exact ⟨rfl, _, World.drewN_drewN _ _ _⟩ | exact ⟨rfl, _, Eq.trans (World.drewN_drewN _ _ _) (congrArg (World.drewN _) (Nat.add_assoc _ _ _))⟩); (try (obtain ⟨Ao20, co20, eo20⟩ := Kd.R_slice HO206.out; subst eo20)); have hcz21_0 : w17.cell? ⟨gb202, 0, none⟩ = some (.int .u16 a2_0) := (blk_cell BK202.out 0).trans rfl; have hcz21_1 : w17.cell? ⟨gb202, 1, none⟩ = some (.int .u16 a2_1) := (blk_cell BK202.out 1).trans rfl; have hcz21_2 : w17.cell? ⟨gb202, 2, none⟩ = some (.slice A2_2 l2_2.length c2_2) := (blk_cell BK202.out 2).trans rfl; have hfz21_0 := blk_frozen BK202.out 0; have hfz21_1 := blk_frozen BK202.out 1; have hfz21_2 := blk_frozen BK202.out 2)); try go_wp2_with (first | (go_at_call 49; (with_reducible refine (towropelaw08_code.calls t207 t208 _ A18.out).mono ?_); rintro e w' ⟨rfl, ⟨nd, rfl⟩⟩; (try first | exact ⟨rfl, _, World.drewN_drewN _ _ _⟩ | exact ⟨rfl, _, Eq.trans (World.drewN_drewN _ _ _) (congrArg (World.drewN _) (Nat.add_assoc _ _ _))⟩); (try (obtain ⟨Ao20, co20, eo20⟩ := Kd.R_slice HO206.out; subst eo20)); have hcz21_0 : w17.cell? ⟨gb202, 0, none⟩ = some (.int .u16 a2_0) := (blk_cell BK202.out 0).trans rfl; have hcz21_1 : w17.cell? ⟨gb202, 1, none⟩ = some (.int .u16 a2_1) := (blk_cell BK202.out 1).trans rfl; have hcz21_2 : w17.cell? ⟨gb202, 2, none⟩ = some (.slice A2_2 l2_2.length c2_2) := (blk_cell BK202.out 2).trans rfl; have hfz21_0 := blk_frozen BK202.out 0; have hfz21_1 := blk_frozen BK202.out 1; have hfz21_2 := blk_frozen BK202.out 2)))
      go_meet
      case rel => exact ⟨_, (((t204.length : Int) != (wrap64 (8 + (l2_2.length : Int))))), (by first | rfl | (simp; done) | (simp [*]; done)), H', ⟨by have := HJ5.out; first | omega | exact Nat.le_refl _⟩, ⟨by (with_reducible repeat (first | apply Kd.R_alloc | apply Kd.R_drewN | apply Kd.R_drew)); exact HO206.out⟩, ⟨by (with_reducible repeat (first | refine blk_drewN ?_ _ | refine blk_drew ?_ | refine blk_alloc ?_ _)); exact BK202.out⟩, ⟨by repeat (first | (with_reducible first | exact HB.out | apply below_alloc | apply pw_below_drewN | apply below_drew1 | refine below_set ?_ GE202.out) | exact HB.out)⟩⟩
     ·
      rw [if_neg c19] at H
      have c19b0 : (t208 == 0) = false := beq_eq_false_iff_ne.mpr c19
      have c19b1 : (t208 != 0) = true := bne_iff_ne.mpr c19
      (first | rw [c19b0] | (simp only [i64_w, i32_w]; rw [c19b0]) | skip)
      have H' := Aside0.mk H
      clear H
      go_wp2_with (first | (go_at_call 49; (with_reducible refine (towropelaw08_code.calls t207 t208 _ A18.out).mono ?_); rintro e w' ⟨rfl, ⟨nd, rfl⟩⟩; (try first | exact ⟨rfl, _, World.drewN_drewN _ _ _⟩ | exact ⟨rfl, _, Eq.trans (World.drewN_drewN _ _ _) (congrArg (World.drewN _) (Nat.add_assoc _ _ _))⟩)))
      repeat (go_quiet (first | (go_at_call 49; (with_reducible refine (towropelaw08_code.calls t207 t208 _ A18.out).mono ?_); rintro e w' ⟨rfl, ⟨nd, rfl⟩⟩; (try first | exact ⟨rfl, _, World.drewN_drewN _ _ _⟩ | exact ⟨rfl, _, Eq.trans (World.drewN_drewN _ _ _) (congrArg (World.drewN _) (Nat.add_assoc _ _ _))⟩))); try go_wp2_with (first | (go_at_call 49; (with_reducible refine (towropelaw08_code.calls t207 t208 _ A18.out).mono ?_); rintro e w' ⟨rfl, ⟨nd, rfl⟩⟩; (try first | exact ⟨rfl, _, World.drewN_drewN _ _ _⟩ | exact ⟨rfl, _, Eq.trans (World.drewN_drewN _ _ _) (congrArg (World.drewN _) (Nat.add_assoc _ _ _))⟩))))
      go_meet
      case rel => exact ⟨_, (true), (by first | rfl | (simp; done) | (simp [*]; done)), H', ⟨by have := HJ5.out; first | omega | exact Nat.le_refl _⟩, ⟨by (with_reducible repeat (first | apply Kd.R_alloc | apply Kd.R_drewN | apply Kd.R_drew)); exact HO206.out⟩, ⟨by (with_reducible repeat (first | refine blk_drewN ?_ _ | refine blk_drew ?_ | refine blk_alloc ?_ _)); exact BK202.out⟩, ⟨by repeat (first | (with_reducible first | exact HB.out | apply below_alloc | apply pw_below_drewN | apply below_drew1 | refine below_set ?_ GE202.out) | exact HB.out)⟩⟩
    case rest =>
     clear HC15
     try clear c1
     try clear c2
     try clear p2
     try clear p6
     try clear c8
     try clear c8b0
     try clear c8b1
     try clear c11
     try clear c13
     try clear c19
     try clear c19b0
     try clear c19b1
     try clear hcz10_0
     try clear hcz10_1
     try clear hcz10_2
     try clear hcz16_0
     try clear hcz16_1
     try clear hcz16_2
     try clear hcz21_0
     try clear hcz21_1
     try clear hcz21_2
     try clear hcz9_0
     try clear hcz9_1
     try clear hcz9_2
     try clear hfz10_0
     try clear hfz10_1
     try clear hfz10_2
     try clear hfz16_0
     try clear hfz16_1
     try clear hfz16_2
     try clear hfz21_0
     try clear hfz21_1
     try clear hfz21_2
     try clear hfz9_0
     try clear hfz9_1
     try clear hfz9_2
     try clear p2
     obtain ⟨kq, x50_14, rfl, HA, HJ14, HO_13, BK202, HB⟩ := hcut
     cases kq with
     | zero => exact absurd HA.out (by simp [towropelaw08_GramTurned.j1])
     | succ kj14 =>
      have H := HA.out
      clear HA
      simp only [towropelaw08_GramTurned.j1] at H
      by_cases c22 : x50_14 = true
      ·
       subst c22
       have H1 : (some false) = some r := by rw [if_pos rfl] at H; exact H
       clear H
       have H := H1
       clear H1
       exact absurd ((Option.some.inj H).trans HRT.out) (by decide)
      ·
       replace c22 := Bool.eq_false_iff.mpr c22
       subst c22
       have H1 : (if (wrap64 ((l2_2.length : Int) / 2)) = 0 then (none) else (if 0 ≤ (wrap64 (8 + (wrap64 ((Int.tmod (wrap64 (a3)) (wrap64 ((l2_2.length : Int) / 2))) * 2)))) then (if (wrap64 (8 + (wrap64 ((Int.tmod (wrap64 (a3)) (wrap64 ((l2_2.length : Int) / 2))) * 2)))) < (t204.length : Int) then (if 0 ≤ (wrap64 (9 + (wrap64 ((Int.tmod (wrap64 (a3)) (wrap64 ((l2_2.length : Int) / 2))) * 2)))) then (if (wrap64 (9 + (wrap64 ((Int.tmod (wrap64 (a3)) (wrap64 ((l2_2.length : Int) / 2))) * 2)))) < (t204.length : Int) then ((gram_Get.f kj14 a0 a1 ((t204.set ((wrap64 (8 + (wrap64 ((Int.tmod (wrap64 (a3)) (wrap64 ((l2_2.length : Int) / 2))) * 2)))) : Int).toNat ((IntKind.u16.wrap (Int.tdiv a4 256)) % 256)).set ((wrap64 (9 + (wrap64 ((Int.tmod (wrap64 (a3)) (wrap64 ((l2_2.length : Int) / 2))) * 2)))) : Int).toNat ((Int.tmod a4 256) % 256))).bind fun bt213 => (if (wrap64 ((wrap64 (256 * (wrap64 (rd t204 (wrap64 (8 + (wrap64 ((Int.tmod (wrap64 (a3)) (wrap64 ((l2_2.length : Int) / 2))) * 2)))))))) + (wrap64 (rd t204 (wrap64 (9 + (wrap64 ((Int.tmod (wrap64 (a3)) (wrap64 ((l2_2.length : Int) / 2))) * 2)))))))) = (wrap64 (a4)) then (towropelaw08_GramTurned.j2 kj14 bt213.2.2.2 true a2_0 a2_1 l2_2 bt213.1 bt213.2.1 bt213.2.2.1) else (if (wrap64 ((wrap64 ((wrap64 (256 * (wrap64 (rd t204 (wrap64 (8 + (wrap64 ((Int.tmod (wrap64 (a3)) (wrap64 ((l2_2.length : Int) / 2))) * 2)))))))) + (wrap64 (rd t204 (wrap64 (9 + (wrap64 ((Int.tmod (wrap64 (a3)) (wrap64 ((l2_2.length : Int) / 2))) * 2)))))))) + (wrap64 (a4)))) = 65535 then (towropelaw08_GramTurned.j2 kj14 bt213.2.2.2 ((wrap64 ((wrap64 ((wrap64 (256 * (wrap64 (rd t204 (wrap64 (8 + (wrap64 ((Int.tmod (wrap64 (a3)) (wrap64 ((l2_2.length : Int) / 2))) * 2)))))))) + (wrap64 (rd t204 (wrap64 (9 + (wrap64 ((Int.tmod (wrap64 (a3)) (wrap64 ((l2_2.length : Int) / 2))) * 2)))))))) * (wrap64 (a4)))) == 0) a2_0 a2_1 l2_2 bt213.1 bt213.2.1 bt213.2.2.1) else (towropelaw08_GramTurned.j2 kj14 bt213.2.2.2 false a2_0 a2_1 l2_2 bt213.1 bt213.2.1 bt213.2.2.1)))) else (none)) else (none)) else (none)) else (none))) = some r := by rw [if_neg (show ¬ (false = true) by decide)] at H; exact H
       clear H
       have H := H1
       clear H1
       by_cases c23 : (wrap64 ((l2_2.length : Int) / 2)) = 0
       ·
        rw [if_pos c23] at H
        exact absurd H (by simp)
       ·
        rw [if_neg c23] at H
        have c23b0 : ((wrap64 ((l2_2.length : Int) / 2)) == 0) = false := beq_eq_false_iff_ne.mpr c23
        have c23b1 : ((wrap64 ((l2_2.length : Int) / 2)) != 0) = true := bne_iff_ne.mpr c23
        obtain ⟨ji24, hji24⟩ : ∃ j_ : Int, (wrap64 (8 + (wrap64 ((Int.tmod (wrap64 (a3)) (wrap64 ((l2_2.length : Int) / 2))) * 2)))) = j_ := ⟨_, rfl⟩
        replace H : (if 0 ≤ (ji24) then (if (ji24) < (t204.length : Int) then (if 0 ≤ (wrap64 (9 + (wrap64 ((Int.tmod (wrap64 (a3)) (wrap64 ((l2_2.length : Int) / 2))) * 2)))) then (if (wrap64 (9 + (wrap64 ((Int.tmod (wrap64 (a3)) (wrap64 ((l2_2.length : Int) / 2))) * 2)))) < (t204.length : Int) then ((gram_Get.f kj14 a0 a1 ((t204.set ((ji24) : Int).toNat ((IntKind.u16.wrap (Int.tdiv a4 256)) % 256)).set ((wrap64 (9 + (wrap64 ((Int.tmod (wrap64 (a3)) (wrap64 ((l2_2.length : Int) / 2))) * 2)))) : Int).toNat ((Int.tmod a4 256) % 256))).bind fun bt213 => (if (wrap64 ((wrap64 (256 * (wrap64 (rd t204 (ji24))))) + (wrap64 (rd t204 (wrap64 (9 + (wrap64 ((Int.tmod (wrap64 (a3)) (wrap64 ((l2_2.length : Int) / 2))) * 2)))))))) = (wrap64 (a4)) then (towropelaw08_GramTurned.j2 kj14 bt213.2.2.2 true a2_0 a2_1 l2_2 bt213.1 bt213.2.1 bt213.2.2.1) else (if (wrap64 ((wrap64 ((wrap64 (256 * (wrap64 (rd t204 (ji24))))) + (wrap64 (rd t204 (wrap64 (9 + (wrap64 ((Int.tmod (wrap64 (a3)) (wrap64 ((l2_2.length : Int) / 2))) * 2)))))))) + (wrap64 (a4)))) = 65535 then (towropelaw08_GramTurned.j2 kj14 bt213.2.2.2 ((wrap64 ((wrap64 ((wrap64 (256 * (wrap64 (rd t204 (ji24))))) + (wrap64 (rd t204 (wrap64 (9 + (wrap64 ((Int.tmod (wrap64 (a3)) (wrap64 ((l2_2.length : Int) / 2))) * 2)))))))) * (wrap64 (a4)))) == 0) a2_0 a2_1 l2_2 bt213.1 bt213.2.1 bt213.2.2.1) else (towropelaw08_GramTurned.j2 kj14 bt213.2.2.2 false a2_0 a2_1 l2_2 bt213.1 bt213.2.1 bt213.2.2.1)))) else (none)) else (none)) else (none)) else (none)) = some r := by first | (rw [hji24] at H; exact H) | (simp only [hji24] at H ⊢; exact H)
        have hji24w : (IntKind.i64.wrap (8 + (wrap64 ((Int.tmod (wrap64 (a3)) (wrap64 ((l2_2.length : Int) / 2))) * 2)))) = ji24 := (i64_w _).trans hji24
        by_cases c25 : 0 ≤ (ji24)
        ·
         rw [if_pos c25] at H
         have c25b0 : decide (0 ≤ (ji24)) = true := decide_eq_true c25
         clear c25
         by_cases c26 : (ji24) < (t204.length : Int)
         ·
          rw [if_pos c26] at H
          have c26b0 : decide ((ji24) < (t204.length : Int)) = true := decide_eq_true c26
          clear c26
          obtain ⟨ji27, hji27⟩ : ∃ j_ : Int, (wrap64 (9 + (wrap64 ((Int.tmod (wrap64 (a3)) (wrap64 ((l2_2.length : Int) / 2))) * 2)))) = j_ := ⟨_, rfl⟩
          replace H : (if 0 ≤ (ji27) then (if (ji27) < (t204.length : Int) then ((gram_Get.f kj14 a0 a1 ((t204.set ((ji24) : Int).toNat ((IntKind.u16.wrap (Int.tdiv a4 256)) % 256)).set ((ji27) : Int).toNat ((Int.tmod a4 256) % 256))).bind fun bt213 => (if (wrap64 ((wrap64 (256 * (wrap64 (rd t204 (ji24))))) + (wrap64 (rd t204 (ji27))))) = (wrap64 (a4)) then (towropelaw08_GramTurned.j2 kj14 bt213.2.2.2 true a2_0 a2_1 l2_2 bt213.1 bt213.2.1 bt213.2.2.1) else (if (wrap64 ((wrap64 ((wrap64 (256 * (wrap64 (rd t204 (ji24))))) + (wrap64 (rd t204 (ji27))))) + (wrap64 (a4)))) = 65535 then (towropelaw08_GramTurned.j2 kj14 bt213.2.2.2 ((wrap64 ((wrap64 ((wrap64 (256 * (wrap64 (rd t204 (ji24))))) + (wrap64 (rd t204 (ji27))))) * (wrap64 (a4)))) == 0) a2_0 a2_1 l2_2 bt213.1 bt213.2.1 bt213.2.2.1) else (towropelaw08_GramTurned.j2 kj14 bt213.2.2.2 false a2_0 a2_1 l2_2 bt213.1 bt213.2.1 bt213.2.2.1)))) else (none)) else (none)) = some r := by first | (rw [hji27] at H; exact H) | (simp only [hji27] at H ⊢; exact H)
          have hji27w : (IntKind.i64.wrap (9 + (wrap64 ((Int.tmod (wrap64 (a3)) (wrap64 ((l2_2.length : Int) / 2))) * 2)))) = ji27 := (i64_w _).trans hji27
          by_cases c28 : 0 ≤ (ji27)
          ·
           rw [if_pos c28] at H
           have c28b0 : decide (0 ≤ (ji27)) = true := decide_eq_true c28
           clear c28
           by_cases c29 : (ji27) < (t204.length : Int)
           ·
            rw [if_pos c29] at H
            have c29b0 : decide ((ji27) < (t204.length : Int)) = true := decide_eq_true c29
            clear c29
            obtain ⟨y211, hy211⟩ : ∃ y_ : List Int, y_ = (t204.set ((ji24) : Int).toNat ((IntKind.u16.wrap (Int.tdiv a4 256)) % 256)) := ⟨_, rfl⟩
            replace H : ((gram_Get.f kj14 a0 a1 (y211.set ((ji27) : Int).toNat ((Int.tmod a4 256) % 256))).bind fun bt213 => (if (wrap64 ((wrap64 (256 * (wrap64 (rd t204 (ji24))))) + (wrap64 (rd t204 (ji27))))) = (wrap64 (a4)) then (towropelaw08_GramTurned.j2 kj14 bt213.2.2.2 true a2_0 a2_1 l2_2 bt213.1 bt213.2.1 bt213.2.2.1) else (if (wrap64 ((wrap64 ((wrap64 (256 * (wrap64 (rd t204 (ji24))))) + (wrap64 (rd t204 (ji27))))) + (wrap64 (a4)))) = 65535 then (towropelaw08_GramTurned.j2 kj14 bt213.2.2.2 ((wrap64 ((wrap64 ((wrap64 (256 * (wrap64 (rd t204 (ji24))))) + (wrap64 (rd t204 (ji27))))) * (wrap64 (a4)))) == 0) a2_0 a2_1 l2_2 bt213.1 bt213.2.1 bt213.2.2.1) else (towropelaw08_GramTurned.j2 kj14 bt213.2.2.2 false a2_0 a2_1 l2_2 bt213.1 bt213.2.1 bt213.2.2.1)))) = some r := by first | (rw [hy211]; with_reducible exact H) | (have H2_ := (Option.bind_some _ _).symm.trans H; rw [hy211]; with_reducible exact H2_) | (have H2_ := (Option.bind_some _ _).symm.trans H; with_reducible exact H2_) | with_reducible exact H | (rw [hy211]; exact H) | exact H
            have Ny211 := Aside0.mk hy211
            clear hy211
            obtain ⟨y212, hy212⟩ : ∃ y_ : List Int, y_ = (y211.set ((ji27) : Int).toNat ((Int.tmod a4 256) % 256)) := ⟨_, rfl⟩
            replace H : ((gram_Get.f kj14 a0 a1 y212).bind fun bt213 => (if (wrap64 ((wrap64 (256 * (wrap64 (rd t204 (ji24))))) + (wrap64 (rd t204 (ji27))))) = (wrap64 (a4)) then (towropelaw08_GramTurned.j2 kj14 bt213.2.2.2 true a2_0 a2_1 l2_2 bt213.1 bt213.2.1 bt213.2.2.1) else (if (wrap64 ((wrap64 ((wrap64 (256 * (wrap64 (rd t204 (ji24))))) + (wrap64 (rd t204 (ji27))))) + (wrap64 (a4)))) = 65535 then (towropelaw08_GramTurned.j2 kj14 bt213.2.2.2 ((wrap64 ((wrap64 ((wrap64 (256 * (wrap64 (rd t204 (ji24))))) + (wrap64 (rd t204 (ji27))))) * (wrap64 (a4)))) == 0) a2_0 a2_1 l2_2 bt213.1 bt213.2.1 bt213.2.2.1) else (towropelaw08_GramTurned.j2 kj14 bt213.2.2.2 false a2_0 a2_1 l2_2 bt213.1 bt213.2.1 bt213.2.2.1)))) = some r := by first | (rw [hy212]; with_reducible exact H) | (have H2_ := (Option.bind_some _ _).symm.trans H; rw [hy212]; with_reducible exact H2_) | (have H2_ := (Option.bind_some _ _).symm.trans H; with_reducible exact H2_) | with_reducible exact H | (rw [hy212]; exact H) | exact H
            have Ny212 := Aside0.mk hy212
            clear hy212
            replace H := Option.bind_eq_some_iff.mp H
            obtain ⟨⟨t213, t214, t215, t218⟩, A320, H⟩ := H
            replace H : (if (wrap64 ((wrap64 (256 * (wrap64 (rd t204 (ji24))))) + (wrap64 (rd t204 (ji27))))) = (wrap64 (a4)) then (towropelaw08_GramTurned.j2 kj14 t218 true a2_0 a2_1 l2_2 t213 t214 t215) else (if (wrap64 ((wrap64 ((wrap64 (256 * (wrap64 (rd t204 (ji24))))) + (wrap64 (rd t204 (ji27))))) + (wrap64 (a4)))) = 65535 then (towropelaw08_GramTurned.j2 kj14 t218 ((wrap64 ((wrap64 ((wrap64 (256 * (wrap64 (rd t204 (ji24))))) + (wrap64 (rd t204 (ji27))))) * (wrap64 (a4)))) == 0) a2_0 a2_1 l2_2 t213 t214 t215) else (towropelaw08_GramTurned.j2 kj14 t218 false a2_0 a2_1 l2_2 t213 t214 t215))) = some r := H
            have A32 := Aside0.mk A320
            clear A320
            have HC33 := Aside0.mk H
            clear H
            have hcz34_0 : wc.cell? ⟨gb202, 0, none⟩ = some (.int .u16 a2_0) := (blk_cell BK202.out 0).trans rfl
            have hcz34_1 : wc.cell? ⟨gb202, 1, none⟩ = some (.int .u16 a2_1) := (blk_cell BK202.out 1).trans rfl
            have hcz34_2 : wc.cell? ⟨gb202, 2, none⟩ = some (.slice A2_2 l2_2.length c2_2) := (blk_cell BK202.out 2).trans rfl
            have hfz34_0 := blk_frozen BK202.out 0
            have hfz34_1 := blk_frozen BK202.out 1
            have hfz34_2 := blk_frozen BK202.out 2
            obtain ⟨Ao35, co35, eo35⟩ := Kd.R_slice HO_13.out
            subst eo35
            have p209 : 0 ≤ ((ji24) : Int) := of_decide_eq_true (by first | (with_reducible assumption) | assumption)
            have q209 : (ji24) < (t204.length : Int) := of_decide_eq_true (by first | (with_reducible assumption) | assumption)
            obtain ⟨ad209, e209, hx209_0⟩ := Kd.at_int (Kd.R_reads' HO_13.out).2.2 (ji24) p209 q209
            cases e209
            replace p209 := eq_true p209
            replace q209 := eq_true q209
            have p210 : 0 ≤ ((ji27) : Int) := of_decide_eq_true (by first | (with_reducible assumption) | assumption)
            have q210 : (ji27) < (t204.length : Int) := of_decide_eq_true (by first | (with_reducible assumption) | assumption)
            obtain ⟨ad210, e210, hx210_0⟩ := Kd.at_int (Kd.R_reads' HO_13.out).2.2 (ji27) p210 q210
            obtain rfl : ad209 = ad210 := (by injection e210)
            replace p210 := eq_true p210
            replace q210 := eq_true q210
            have p30 : 0 ≤ ((ji24) : Int) := of_decide_eq_true (by first | (with_reducible assumption) | assumption)
            have q30 : ((ji24) : Int) < ((t204.length : Int) : Int) := of_decide_eq_true (by first | (with_reducible assumption) | assumption)
            obtain ⟨go30, co30, eo30, gb30, gl30, cl30, HG30⟩ := Kd.R_form HO_13.out (by omega)
            (first | cases eo30 | (injection eo30 with ea_ en_ ec_; (first | subst ea_ | (injection ea_ with ea_; subst ea_)); subst ec_; clear en_))
            have GB30 := Aside0.mk gb30
            have GG30 := Aside0.mk HG30
            clear gb30 gl30 HG30
            (first | simp only [add_plain] at hx209_0 | skip)
            (first | simp only [add_plain] at hx210_0 | skip)
            obtain ⟨hx30_0, hf30_0⟩ := Kd.R_celln 0 HO_13.out ((ji24) : Int) p30 q30
            replace p30 := eq_true p30
            replace q30 := eq_true q30
            have HP36 := Kd.R_putg HO_13.out ((ji24) : Int) ((IntKind.u16.wrap (Int.tdiv a4 256)) % 256)
            go_upto_region 11 with (first | ((with_reducible refine gate_store (t := 5) (p := 85) rfl ?_); (try (rw [drewN_self wc]; generalize hq_ : World.drewN wc _ = wc; have n0_ := Aside0.mk (Kd.R_at hq_ HO_13.out); have n1_ := Aside0.mk (blk_at hq_ BK202.out); have n2_ := Aside0.mk (below_at hq_ HB.out); clear hq_ HO_13 BK202 HB; have HO_13 := n0_; have BK202 := n1_; have HB := n2_; clear n0_ n1_ n2_; (try (obtain ⟨hya36_, hza36_⟩ := Kd.R_celln 0 HO_13.out ((ji24) : Int) (of_decide_eq_true (by first | (with_reducible assumption) | assumption)) (of_decide_eq_true (by first | (with_reducible assumption) | assumption)))); (try (have HP36 := Kd.R_putg HO_13.out ((ji24) : Int) ((IntKind.u16.wrap (Int.tdiv a4 256)) % 256))))); refine store_event (t := 5) (p := 85) (v := ?vo_w37) (w1 := (wc.setCell ⟨go30, ((ji24) : Int).toNat, none⟩ (.int .u8 ((IntKind.u16.wrap (Int.tdiv a4 256)) % 256)))) ?hg ?ho ?hn ?hr ?_; (case ho => rfl); (case hg => rfl); (case hn => rfl); (case hr => first | (go_simp; done) | (go_simp; rfl)); intro w37 hw; have hg : wc.grownBy w37 (some go30) := (by rw [hw]; exact HP36.2); have hp_ : Kd.R (Kd.int .u8) 5 w37 w.heap.size (fun _ => True) (.slice (some ⟨go30, 0, none⟩) t204.length co35) y211 := (by rw [hw, Ny211.out]; exact HP36.1); clear HP36; have n0_ := Aside0.mk (hp_); have n1_ := Aside0.mk (blk_grown (g := gb202) (o := .cells #[.int .u16 a2_0, .int .u16 a2_1, .slice A2_2 l2_2.length c2_2] 80 (0, 0)) (by (with_reducible repeat (first | refine blk_drewN ?_ _ | refine blk_drew ?_ | refine blk_alloc ?_ _)); exact BK202.out) hg (Kd.R_ne HO_13.out BK202.out (by decide))); have n2_ := Aside0.mk ((by rw [hw]; exact below_set (HB.out) GB30.out : Below w.heap.size w w37)); clear HO_13; clear BK202; clear HB; have HO_13 := n0_; have BK202 := n1_; have HB := n2_; clear n0_ n1_ n2_; clear hg hw hp_; have p31 : 0 ≤ ((ji27) : Int) := of_decide_eq_true (by first | (with_reducible assumption) | assumption); have q31 : ((ji27) : Int) < ((t204.length : Int) : Int) := of_decide_eq_true (by first | (with_reducible assumption) | assumption); obtain ⟨hx31_0, hf31_0⟩ := Kd.R_celln 0 HO_13.out ((ji27) : Int) p31 q31; replace p31 := eq_true p31; replace q31 := eq_true q31; obtain ⟨hy38_, hz38_⟩ := Kd.R_celln 0 HO_13.out ((ji27) : Int) (of_decide_eq_true (by first | (with_reducible assumption) | assumption)) (of_decide_eq_true (by first | (with_reducible assumption) | assumption)); have HP38 := Kd.R_putg HO_13.out ((ji27) : Int) ((Int.tmod a4 256) % 256)) | ((with_reducible refine gate_store (t := 5) (p := 86) rfl ?_); (try (rw [drewN_self w37]; generalize hq_ : World.drewN w37 _ = w37; have n0_ := Aside0.mk (Kd.R_at hq_ HO_13.out); have n1_ := Aside0.mk (blk_at hq_ BK202.out); have n2_ := Aside0.mk (below_at hq_ HB.out); clear hq_ HO_13 BK202 HB; have HO_13 := n0_; have BK202 := n1_; have HB := n2_; clear n0_ n1_ n2_; (try (obtain ⟨hy38_, hz38_⟩ := Kd.R_celln 0 HO_13.out ((ji27) : Int) (of_decide_eq_true (by first | (with_reducible assumption) | assumption)) (of_decide_eq_true (by first | (with_reducible assumption) | assumption)))); (try (have HP38 := Kd.R_putg HO_13.out ((ji27) : Int) ((Int.tmod a4 256) % 256))))); refine store_event (t := 5) (p := 86) (v := ?vo_w39) (w1 := (w37.setCell ⟨go30, ((ji27) : Int).toNat, none⟩ (.int .u8 ((Int.tmod a4 256) % 256)))) ?hg ?ho ?hn ?hr ?_; (case ho => rfl); (case hg => rfl); (case hn => rfl); (case hr => first | (go_simp; done) | (go_simp; rfl)); intro w39 hw; have hg : w37.grownBy w39 (some go30) := (by rw [hw]; exact HP38.2); have hp_ : Kd.R (Kd.int .u8) 5 w39 w.heap.size (fun _ => True) (.slice (some ⟨go30, 0, none⟩) t204.length co35) y212 := (by rw [hw, Ny212.out]; exact HP38.1); clear HP38; have n0_ := Aside0.mk (hp_); have n1_ := Aside0.mk (blk_grown (g := gb202) (o := .cells #[.int .u16 a2_0, .int .u16 a2_1, .slice A2_2 l2_2.length c2_2] 80 (0, 0)) (by (with_reducible repeat (first | refine blk_drewN ?_ _ | refine blk_drew ?_ | refine blk_alloc ?_ _)); exact BK202.out) hg (Kd.R_ne HO_13.out BK202.out (by decide))); have n2_ := Aside0.mk ((by rw [hw]; exact below_set (HB.out) GB30.out : Below w.heap.size w w39)); clear HO_13; clear BK202; clear HB; have HO_13 := n0_; have BK202 := n1_; have HB := n2_; clear n0_ n1_ n2_; clear hg hw hp_) | (go_at_call 46; refine calls_of_args (args' := #[.int .u32 a0, .int .u32 a1, .slice (some ⟨go30, 0, none⟩) y212.length co35]) (by first | (rw [show y212.length = t204.length from (Kd.R_reads' HO_13.out).1.symm] <;> rfl) | rfl) ?_; (with_reducible refine (gram_Get.calls kj14 a0 a1 _ _ y212 t213 t214 t215 t218 _ ?side1 ?side2 A32.out).mono ?_); (case side1 => repeat (first | exact (Kd.R_reads' HO_13.out).2.2 | (with_reducible refine Kd.C_alloc ?_ _) | (with_reducible refine Kd.C_drewN ?_ _) | (with_reducible refine Kd.C_drew ?_))); (case side2 => rw [show y212.length = t204.length from (Kd.R_reads' HO_13.out).1.symm]; exact (Kd.R_reads' HO_13.out).2.1); rintro e w40 ⟨v216, rfl, ho0, hb⟩; have n0_ := Aside0.mk (Kd.R_elder' (by (with_reducible repeat (first | apply Kd.R_alloc | apply Kd.R_drewN | apply Kd.R_drew)); exact HO_13.out) (Kd.R_base ho0) hb); have n1_ := Aside0.mk (Kd.R_lower (Kd.R_new' ho0 (Kd.R_lt (by (with_reducible repeat (first | apply Kd.R_alloc | apply Kd.R_drewN | apply Kd.R_drew)); exact HO_13.out))) (below_size (by repeat (first | (with_reducible first | exact HB.out | apply below_alloc | apply pw_below_drewN | apply below_drew1 | refine below_set ?_ GE202.out) | exact HB.out)))); have n2_ := Aside0.mk (blk_below (g := gb202) (o := .cells #[.int .u16 a2_0, .int .u16 a2_1, .slice A2_2 l2_2.length c2_2] 80 (0, 0)) (by (with_reducible repeat (first | refine blk_drewN ?_ _ | refine blk_drew ?_ | refine blk_alloc ?_ _)); exact BK202.out) hb); have n3_ := Aside0.mk (below_step (by repeat (first | (with_reducible first | exact HB.out | apply below_alloc | apply pw_below_drewN | apply below_drew1 | refine below_set ?_ GE202.out) | exact HB.out)) hb); clear HO_13; clear BK202; clear HB; have HO_13 := n0_; have HO217 := n1_; have BK202 := n2_; have HB := n3_; clear n0_ n1_ n2_ n3_; (try clear hb); (try clear hb2); (try clear hk); (try clear hi); (try clear ho0)) | ((with_reducible refine gate_dst (N := 17) rfl ?_); (try (refine gate_guard (by rfl) ?_; dsimp only)); refine box_event ?hg (N := 17) ?hd (cs := #[.int .u16 0, .int .u16 0, .slice none 0 0]) (t := 80) ?hr ?_; (case hd => rfl); (case hg => rfl); (case hr => first | (go_simp; done) | (go_simp; rfl)); intro gb219 hg w41 hbox hb; have n0_ := Aside0.mk (Kd.R_below (by (with_reducible repeat (first | apply Kd.R_alloc | apply Kd.R_drewN | apply Kd.R_drew)); exact HO_13.out) hb); have n1_ := Aside0.mk (Kd.R_below (by (with_reducible repeat (first | apply Kd.R_alloc | apply Kd.R_drewN | apply Kd.R_drew)); exact HO217.out) hb); have n2_ := Aside0.mk (blk_below (g := gb202) (o := .cells #[.int .u16 a2_0, .int .u16 a2_1, .slice A2_2 l2_2.length c2_2] 80 (0, 0)) (by (with_reducible repeat (first | refine blk_drewN ?_ _ | refine blk_drew ?_ | refine blk_alloc ?_ _)); exact BK202.out) hb); have n3_ := Aside0.mk (below_step (by repeat (first | (with_reducible first | exact HB.out | apply below_alloc | apply pw_below_drewN | apply below_drew1 | refine below_set ?_ GE202.out) | exact HB.out)) hb); have n4_ := Aside0.mk (hbox); have n5_ := Aside0.mk ((by rw [hg]; exact (below_size (by repeat (first | (with_reducible first | exact HB.out | apply below_alloc | apply pw_below_drewN | apply below_drew1 | refine below_set ?_ GE202.out) | exact HB.out))) : w.heap.size ≤ gb219)); have n6_ := Aside0.mk ((by rw [hg]; exact (below_size (by repeat (first | (with_reducible first | exact HB.out | apply below_alloc | apply pw_below_drewN | apply below_drew1 | refine below_set ?_ GE202.out) | exact HB.out))) : w.heap.size ≤ gb219)); have n7_ := Aside0.mk ((by rw [hg]; exact Nat.ne_of_lt (blk_lt (g := gb202) (o := .cells #[.int .u16 a2_0, .int .u16 a2_1, .slice A2_2 l2_2.length c2_2] 80 (0, 0)) (by (with_reducible repeat (first | refine blk_drewN ?_ _ | refine blk_drew ?_ | refine blk_alloc ?_ _)); exact BK202.out)) : gb202 ≠ gb219)); have n8_ := Aside0.mk ((by rw [hg]; exact Nat.ne_of_gt (blk_lt (g := gb202) (o := .cells #[.int .u16 a2_0, .int .u16 a2_1, .slice A2_2 l2_2.length c2_2] 80 (0, 0)) (by (with_reducible repeat (first | refine blk_drewN ?_ _ | refine blk_drew ?_ | refine blk_alloc ?_ _)); exact BK202.out)) : gb219 ≠ gb202)); clear HO_13; clear HO217; clear BK202; clear HB; have HO_13 := n0_; have HO217 := n1_; have BK202 := n2_; have HB := n3_; have BK219 := n4_; have GW219 := n5_; have GE219 := n6_; have NB202_219 := n7_; have NB219_202 := n8_; clear n0_ n1_ n2_ n3_ n4_ n5_ n6_ n7_ n8_; clear hb hbox hg; have hnb42 := NB219_202.out; have hnc42 := NB202_219.out; have hcz43_0 : w41.cell? ⟨gb219, 0, none⟩ = some (.int .u16 0) := (blk_cell BK219.out 0).trans rfl; have hcz43_1 : w41.cell? ⟨gb219, 1, none⟩ = some (.int .u16 0) := (blk_cell BK219.out 1).trans rfl; have hcz43_2 : w41.cell? ⟨gb219, 2, none⟩ = some (.slice none 0 0) := (blk_cell BK219.out 2).trans rfl; have hfz43_0 := blk_frozen BK219.out 0; have hfz43_1 := blk_frozen BK219.out 1; have hfz43_2 := blk_frozen BK219.out 2; (try (obtain ⟨Ao44, co44, eo44⟩ := Kd.R_slice HO217.out; subst eo44))))
            repeat (go_quiet (first | ((with_reducible refine gate_store (t := 5) (p := 85) rfl ?_); (try (rw [drewN_self wc]; generalize hq_ : World.drewN wc _ = wc; have n0_ := Aside0.mk (Kd.R_at hq_ HO_13.out); have n1_ := Aside0.mk (blk_at hq_ BK202.out); have n2_ := Aside0.mk (below_at hq_ HB.out); clear hq_ HO_13 BK202 HB; have HO_13 := n0_; have BK202 := n1_; have HB := n2_; clear n0_ n1_ n2_; (try (obtain ⟨hya36_, hza36_⟩ := Kd.R_celln 0 HO_13.out ((ji24) : Int) (of_decide_eq_true (by first | (with_reducible assumption) | assumption)) (of_decide_eq_true (by first | (with_reducible assumption) | assumption)))); (try (have HP36 := Kd.R_putg HO_13.out ((ji24) : Int) ((IntKind.u16.wrap (Int.tdiv a4 256)) % 256))))); refine store_event (t := 5) (p := 85) (v := ?vo_w37) (w1 := (wc.setCell ⟨go30, ((ji24) : Int).toNat, none⟩ (.int .u8 ((IntKind.u16.wrap (Int.tdiv a4 256)) % 256)))) ?hg ?ho ?hn ?hr ?_; (case ho => rfl); (case hg => rfl); (case hn => rfl); (case hr => first | (go_simp; done) | (go_simp; rfl)); intro w37 hw; have hg : wc.grownBy w37 (some go30) := (by rw [hw]; exact HP36.2); have hp_ : Kd.R (Kd.int .u8) 5 w37 w.heap.size (fun _ => True) (.slice (some ⟨go30, 0, none⟩) t204.length co35) y211 := (by rw [hw, Ny211.out]; exact HP36.1); clear HP36; have n0_ := Aside0.mk (hp_); have n1_ := Aside0.mk (blk_grown (g := gb202) (o := .cells #[.int .u16 a2_0, .int .u16 a2_1, .slice A2_2 l2_2.length c2_2] 80 (0, 0)) (by (with_reducible repeat (first | refine blk_drewN ?_ _ | refine blk_drew ?_ | refine blk_alloc ?_ _)); exact BK202.out) hg (Kd.R_ne HO_13.out BK202.out (by decide))); have n2_ := Aside0.mk ((by rw [hw]; exact below_set (HB.out) GB30.out : Below w.heap.size w w37)); clear HO_13; clear BK202; clear HB; have HO_13 := n0_; have BK202 := n1_; have HB := n2_; clear n0_ n1_ n2_; clear hg hw hp_; have p31 : 0 ≤ ((ji27) : Int) := of_decide_eq_true (by first | (with_reducible assumption) | assumption); have q31 : ((ji27) : Int) < ((t204.length : Int) : Int) := of_decide_eq_true (by first | (with_reducible assumption) | assumption); obtain ⟨hx31_0, hf31_0⟩ := Kd.R_celln 0 HO_13.out ((ji27) : Int) p31 q31; replace p31 := eq_true p31; replace q31 := eq_true q31; obtain ⟨hy38_, hz38_⟩ := Kd.R_celln 0 HO_13.out ((ji27) : Int) (of_decide_eq_true (by first | (with_reducible assumption) | assumption)) (of_decide_eq_true (by first | (with_reducible assumption) | assumption)); have HP38 := Kd.R_putg HO_13.out ((ji27) : Int) ((Int.tmod a4 256) % 256)) | ((with_reducible refine gate_store (t := 5) (p := 86) rfl ?_); (try (rw [drewN_self w37]; generalize hq_ : World.drewN w37 _ = w37; have n0_ := Aside0.mk (Kd.R_at hq_ HO_13.out); have n1_ := Aside0.mk (blk_at hq_ BK202.out); have n2_ := Aside0.mk (below_at hq_ HB.out); clear hq_ HO_13 BK202 HB; have HO_13 := n0_; have BK202 := n1_; have HB := n2_; clear n0_ n1_ n2_; (try (obtain ⟨hy38_, hz38_⟩ := Kd.R_celln 0 HO_13.out ((ji27) : Int) (of_decide_eq_true (by first | (with_reducible assumption) | assumption)) (of_decide_eq_true (by first | (with_reducible assumption) | assumption)))); (try (have HP38 := Kd.R_putg HO_13.out ((ji27) : Int) ((Int.tmod a4 256) % 256))))); refine store_event (t := 5) (p := 86) (v := ?vo_w39) (w1 := (w37.setCell ⟨go30, ((ji27) : Int).toNat, none⟩ (.int .u8 ((Int.tmod a4 256) % 256)))) ?hg ?ho ?hn ?hr ?_; (case ho => rfl); (case hg => rfl); (case hn => rfl); (case hr => first | (go_simp; done) | (go_simp; rfl)); intro w39 hw; have hg : w37.grownBy w39 (some go30) := (by rw [hw]; exact HP38.2); have hp_ : Kd.R (Kd.int .u8) 5 w39 w.heap.size (fun _ => True) (.slice (some ⟨go30, 0, none⟩) t204.length co35) y212 := (by rw [hw, Ny212.out]; exact HP38.1); clear HP38; have n0_ := Aside0.mk (hp_); have n1_ := Aside0.mk (blk_grown (g := gb202) (o := .cells #[.int .u16 a2_0, .int .u16 a2_1, .slice A2_2 l2_2.length c2_2] 80 (0, 0)) (by (with_reducible repeat (first | refine blk_drewN ?_ _ | refine blk_drew ?_ | refine blk_alloc ?_ _)); exact BK202.out) hg (Kd.R_ne HO_13.out BK202.out (by decide))); have n2_ := Aside0.mk ((by rw [hw]; exact below_set (HB.out) GB30.out : Below w.heap.size w w39)); clear HO_13; clear BK202; clear HB; have HO_13 := n0_; have BK202 := n1_; have HB := n2_; clear n0_ n1_ n2_; clear hg hw hp_) | (go_at_call 46; refine calls_of_args (args' := #[.int .u32 a0, .int .u32 a1, .slice (some ⟨go30, 0, none⟩) y212.length co35]) (by first | (rw [show y212.length = t204.length from (Kd.R_reads' HO_13.out).1.symm] <;> rfl) | rfl) ?_; (with_reducible refine (gram_Get.calls kj14 a0 a1 _ _ y212 t213 t214 t215 t218 _ ?side1 ?side2 A32.out).mono ?_); (case side1 => repeat (first | exact (Kd.R_reads' HO_13.out).2.2 | (with_reducible refine Kd.C_alloc ?_ _) | (with_reducible refine Kd.C_drewN ?_ _) | (with_reducible refine Kd.C_drew ?_))); (case side2 => rw [show y212.length = t204.length from (Kd.R_reads' HO_13.out).1.symm]; exact (Kd.R_reads' HO_13.out).2.1); rintro e w40 ⟨v216, rfl, ho0, hb⟩; have n0_ := Aside0.mk (Kd.R_elder' (by (with_reducible repeat (first | apply Kd.R_alloc | apply Kd.R_drewN | apply Kd.R_drew)); exact HO_13.out) (Kd.R_base ho0) hb); have n1_ := Aside0.mk (Kd.R_lower (Kd.R_new' ho0 (Kd.R_lt (by (with_reducible repeat (first | apply Kd.R_alloc | apply Kd.R_drewN | apply Kd.R_drew)); exact HO_13.out))) (below_size (by repeat (first | (with_reducible first | exact HB.out | apply below_alloc | apply pw_below_drewN | apply below_drew1 | refine below_set ?_ GE202.out) | exact HB.out)))); have n2_ := Aside0.mk (blk_below (g := gb202) (o := .cells #[.int .u16 a2_0, .int .u16 a2_1, .slice A2_2 l2_2.length c2_2] 80 (0, 0)) (by (with_reducible repeat (first | refine blk_drewN ?_ _ | refine blk_drew ?_ | refine blk_alloc ?_ _)); exact BK202.out) hb); have n3_ := Aside0.mk (below_step (by repeat (first | (with_reducible first | exact HB.out | apply below_alloc | apply pw_below_drewN | apply below_drew1 | refine below_set ?_ GE202.out) | exact HB.out)) hb); clear HO_13; clear BK202; clear HB; have HO_13 := n0_; have HO217 := n1_; have BK202 := n2_; have HB := n3_; clear n0_ n1_ n2_ n3_; (try clear hb); (try clear hb2); (try clear hk); (try clear hi); (try clear ho0)) | ((with_reducible refine gate_dst (N := 17) rfl ?_); (try (refine gate_guard (by rfl) ?_; dsimp only)); refine box_event ?hg (N := 17) ?hd (cs := #[.int .u16 0, .int .u16 0, .slice none 0 0]) (t := 80) ?hr ?_; (case hd => rfl); (case hg => rfl); (case hr => first | (go_simp; done) | (go_simp; rfl)); intro gb219 hg w41 hbox hb; have n0_ := Aside0.mk (Kd.R_below (by (with_reducible repeat (first | apply Kd.R_alloc | apply Kd.R_drewN | apply Kd.R_drew)); exact HO_13.out) hb); have n1_ := Aside0.mk (Kd.R_below (by (with_reducible repeat (first | apply Kd.R_alloc | apply Kd.R_drewN | apply Kd.R_drew)); exact HO217.out) hb); have n2_ := Aside0.mk (blk_below (g := gb202) (o := .cells #[.int .u16 a2_0, .int .u16 a2_1, .slice A2_2 l2_2.length c2_2] 80 (0, 0)) (by (with_reducible repeat (first | refine blk_drewN ?_ _ | refine blk_drew ?_ | refine blk_alloc ?_ _)); exact BK202.out) hb); have n3_ := Aside0.mk (below_step (by repeat (first | (with_reducible first | exact HB.out | apply below_alloc | apply pw_below_drewN | apply below_drew1 | refine below_set ?_ GE202.out) | exact HB.out)) hb); have n4_ := Aside0.mk (hbox); have n5_ := Aside0.mk ((by rw [hg]; exact (below_size (by repeat (first | (with_reducible first | exact HB.out | apply below_alloc | apply pw_below_drewN | apply below_drew1 | refine below_set ?_ GE202.out) | exact HB.out))) : w.heap.size ≤ gb219)); have n6_ := Aside0.mk ((by rw [hg]; exact (below_size (by repeat (first | (with_reducible first | exact HB.out | apply below_alloc | apply pw_below_drewN | apply below_drew1 | refine below_set ?_ GE202.out) | exact HB.out))) : w.heap.size ≤ gb219)); have n7_ := Aside0.mk ((by rw [hg]; exact Nat.ne_of_lt (blk_lt (g := gb202) (o := .cells #[.int .u16 a2_0, .int .u16 a2_1, .slice A2_2 l2_2.length c2_2] 80 (0, 0)) (by (with_reducible repeat (first | refine blk_drewN ?_ _ | refine blk_drew ?_ | refine blk_alloc ?_ _)); exact BK202.out)) : gb202 ≠ gb219)); have n8_ := Aside0.mk ((by rw [hg]; exact Nat.ne_of_gt (blk_lt (g := gb202) (o := .cells #[.int .u16 a2_0, .int .u16 a2_1, .slice A2_2 l2_2.length c2_2] 80 (0, 0)) (by (with_reducible repeat (first | refine blk_drewN ?_ _ | refine blk_drew ?_ | refine blk_alloc ?_ _)); exact BK202.out)) : gb219 ≠ gb202)); clear HO_13; clear HO217; clear BK202; clear HB; have HO_13 := n0_; have HO217 := n1_; have BK202 := n2_; have HB := n3_; have BK219 := n4_; have GW219 := n5_; have GE219 := n6_; have NB202_219 := n7_; have NB219_202 := n8_; clear n0_ n1_ n2_ n3_ n4_ n5_ n6_ n7_ n8_; clear hb hbox hg; have hnb42 := NB219_202.out; have hnc42 := NB202_219.out; have hcz43_0 : w41.cell? ⟨gb219, 0, none⟩ = some (.int .u16 0) := (blk_cell BK219.out 0).trans rfl; have hcz43_1 : w41.cell? ⟨gb219, 1, none⟩ = some (.int .u16 0) := (blk_cell BK219.out 1).trans rfl; have hcz43_2 : w41.cell? ⟨gb219, 2, none⟩ = some (.slice none 0 0) := (blk_cell BK219.out 2).trans rfl; have hfz43_0 := blk_frozen BK219.out 0; have hfz43_1 := blk_frozen BK219.out 1; have hfz43_2 := blk_frozen BK219.out 2; (try (obtain ⟨Ao44, co44, eo44⟩ := Kd.R_slice HO217.out; subst eo44)))); go_upto_region 11 with (first | ((with_reducible refine gate_store (t := 5) (p := 85) rfl ?_); (try (rw [drewN_self wc]; generalize hq_ : World.drewN wc _ = wc; have n0_ := Aside0.mk (Kd.R_at hq_ HO_13.out); have n1_ := Aside0.mk (blk_at hq_ BK202.out); have n2_ := Aside0.mk (below_at hq_ HB.out); clear hq_ HO_13 BK202 HB; have HO_13 := n0_; have BK202 := n1_; have HB := n2_; clear n0_ n1_ n2_; (try (obtain ⟨hya36_, hza36_⟩ := Kd.R_celln 0 HO_13.out ((ji24) : Int) (of_decide_eq_true (by first | (with_reducible assumption) | assumption)) (of_decide_eq_true (by first | (with_reducible assumption) | assumption)))); (try (have HP36 := Kd.R_putg HO_13.out ((ji24) : Int) ((IntKind.u16.wrap (Int.tdiv a4 256)) % 256))))); refine store_event (t := 5) (p := 85) (v := ?vo_w37) (w1 := (wc.setCell ⟨go30, ((ji24) : Int).toNat, none⟩ (.int .u8 ((IntKind.u16.wrap (Int.tdiv a4 256)) % 256)))) ?hg ?ho ?hn ?hr ?_; (case ho => rfl); (case hg => rfl); (case hn => rfl); (case hr => first | (go_simp; done) | (go_simp; rfl)); intro w37 hw; have hg : wc.grownBy w37 (some go30) := (by rw [hw]; exact HP36.2); have hp_ : Kd.R (Kd.int .u8) 5 w37 w.heap.size (fun _ => True) (.slice (some ⟨go30, 0, none⟩) t204.length co35) y211 := (by rw [hw, Ny211.out]; exact HP36.1); clear HP36; have n0_ := Aside0.mk (hp_); have n1_ := Aside0.mk (blk_grown (g := gb202) (o := .cells #[.int .u16 a2_0, .int .u16 a2_1, .slice A2_2 l2_2.length c2_2] 80 (0, 0)) (by (with_reducible repeat (first | refine blk_drewN ?_ _ | refine blk_drew ?_ | refine blk_alloc ?_ _)); exact BK202.out) hg (Kd.R_ne HO_13.out BK202.out (by decide))); have n2_ := Aside0.mk ((by rw [hw]; exact below_set (HB.out) GB30.out : Below w.heap.size w w37)); clear HO_13; clear BK202; clear HB; have HO_13 := n0_; have BK202 := n1_; have HB := n2_; clear n0_ n1_ n2_; clear hg hw hp_; have p31 : 0 ≤ ((ji27) : Int) := of_decide_eq_true (by first | (with_reducible assumption) | assumption); have q31 : ((ji27) : Int) < ((t204.length : Int) : Int) := of_decide_eq_true (by first | (with_reducible assumption) | assumption); obtain ⟨hx31_0, hf31_0⟩ := Kd.R_celln 0 HO_13.out ((ji27) : Int) p31 q31; replace p31 := eq_true p31; replace q31 := eq_true q31; obtain ⟨hy38_, hz38_⟩ := Kd.R_celln 0 HO_13.out ((ji27) : Int) (of_decide_eq_true (by first | (with_reducible assumption) | assumption)) (of_decide_eq_true (by first | (with_reducible assumption) | assumption)); have HP38 := Kd.R_putg HO_13.out ((ji27) : Int) ((Int.tmod a4 256) % 256)) | ((with_reducible refine gate_store (t := 5) (p := 86) rfl ?_); (try (rw [drewN_self w37]; generalize hq_ : World.drewN w37 _ = w37; have n0_ := Aside0.mk (Kd.R_at hq_ HO_13.out); have n1_ := Aside0.mk (blk_at hq_ BK202.out); have n2_ := Aside0.mk (below_at hq_ HB.out); clear hq_ HO_13 BK202 HB; have HO_13 := n0_; have BK202 := n1_; have HB := n2_; clear n0_ n1_ n2_; (try (obtain ⟨hy38_, hz38_⟩ := Kd.R_celln 0 HO_13.out ((ji27) : Int) (of_decide_eq_true (by first | (with_reducible assumption) | assumption)) (of_decide_eq_true (by first | (with_reducible assumption) | assumption)))); (try (have HP38 := Kd.R_putg HO_13.out ((ji27) : Int) ((Int.tmod a4 256) % 256))))); refine store_event (t := 5) (p := 86) (v := ?vo_w39) (w1 := (w37.setCell ⟨go30, ((ji27) : Int).toNat, none⟩ (.int .u8 ((Int.tmod a4 256) % 256)))) ?hg ?ho ?hn ?hr ?_; (case ho => rfl); (case hg => rfl); (case hn => rfl); (case hr => first | (go_simp; done) | (go_simp; rfl)); intro w39 hw; have hg : w37.grownBy w39 (some go30) := (by rw [hw]; exact HP38.2); have hp_ : Kd.R (Kd.int .u8) 5 w39 w.heap.size (fun _ => True) (.slice (some ⟨go30, 0, none⟩) t204.length co35) y212 := (by rw [hw, Ny212.out]; exact HP38.1); clear HP38; have n0_ := Aside0.mk (hp_); have n1_ := Aside0.mk (blk_grown (g := gb202) (o := .cells #[.int .u16 a2_0, .int .u16 a2_1, .slice A2_2 l2_2.length c2_2] 80 (0, 0)) (by (with_reducible repeat (first | refine blk_drewN ?_ _ | refine blk_drew ?_ | refine blk_alloc ?_ _)); exact BK202.out) hg (Kd.R_ne HO_13.out BK202.out (by decide))); have n2_ := Aside0.mk ((by rw [hw]; exact below_set (HB.out) GB30.out : Below w.heap.size w w39)); clear HO_13; clear BK202; clear HB; have HO_13 := n0_; have BK202 := n1_; have HB := n2_; clear n0_ n1_ n2_; clear hg hw hp_) | (go_at_call 46; refine calls_of_args (args' := #[.int .u32 a0, .int .u32 a1, .slice (some ⟨go30, 0, none⟩) y212.length co35]) (by first | (rw [show y212.length = t204.length from (Kd.R_reads' HO_13.out).1.symm] <;> rfl) | rfl) ?_; (with_reducible refine (gram_Get.calls kj14 a0 a1 _ _ y212 t213 t214 t215 t218 _ ?side1 ?side2 A32.out).mono ?_); (case side1 => repeat (first | exact (Kd.R_reads' HO_13.out).2.2 | (with_reducible refine Kd.C_alloc ?_ _) | (with_reducible refine Kd.C_drewN ?_ _) | (with_reducible refine Kd.C_drew ?_))); (case side2 => rw [show y212.length = t204.length from (Kd.R_reads' HO_13.out).1.symm]; exact (Kd.R_reads' HO_13.out).2.1); rintro e w40 ⟨v216, rfl, ho0, hb⟩; have n0_ := Aside0.mk (Kd.R_elder' (by (with_reducible repeat (first | apply Kd.R_alloc | apply Kd.R_drewN | apply Kd.R_drew)); exact HO_13.out) (Kd.R_base ho0) hb); have n1_ := Aside0.mk (Kd.R_lower (Kd.R_new' ho0 (Kd.R_lt (by (with_reducible repeat (first | apply Kd.R_alloc | apply Kd.R_drewN | apply Kd.R_drew)); exact HO_13.out))) (below_size (by repeat (first | (with_reducible first | exact HB.out | apply below_alloc | apply pw_below_drewN | apply below_drew1 | refine below_set ?_ GE202.out) | exact HB.out)))); have n2_ := Aside0.mk (blk_below (g := gb202) (o := .cells #[.int .u16 a2_0, .int .u16 a2_1, .slice A2_2 l2_2.length c2_2] 80 (0, 0)) (by (with_reducible repeat (first | refine blk_drewN ?_ _ | refine blk_drew ?_ | refine blk_alloc ?_ _)); exact BK202.out) hb); have n3_ := Aside0.mk (below_step (by repeat (first | (with_reducible first | exact HB.out | apply below_alloc | apply pw_below_drewN | apply below_drew1 | refine below_set ?_ GE202.out) | exact HB.out)) hb); clear HO_13; clear BK202; clear HB; have HO_13 := n0_; have HO217 := n1_; have BK202 := n2_; have HB := n3_; clear n0_ n1_ n2_ n3_; (try clear hb); (try clear hb2); (try clear hk); (try clear hi); (try clear ho0)) | ((with_reducible refine gate_dst (N := 17) rfl ?_); (try (refine gate_guard (by rfl) ?_; dsimp only)); refine box_event ?hg (N := 17) ?hd (cs := #[.int .u16 0, .int .u16 0, .slice none 0 0]) (t := 80) ?hr ?_; (case hd => rfl); (case hg => rfl); (case hr => first | (go_simp; done) | (go_simp; rfl)); intro gb219 hg w41 hbox hb; have n0_ := Aside0.mk (Kd.R_below (by (with_reducible repeat (first | apply Kd.R_alloc | apply Kd.R_drewN | apply Kd.R_drew)); exact HO_13.out) hb); have n1_ := Aside0.mk (Kd.R_below (by (with_reducible repeat (first | apply Kd.R_alloc | apply Kd.R_drewN | apply Kd.R_drew)); exact HO217.out) hb); have n2_ := Aside0.mk (blk_below (g := gb202) (o := .cells #[.int .u16 a2_0, .int .u16 a2_1, .slice A2_2 l2_2.length c2_2] 80 (0, 0)) (by (with_reducible repeat (first | refine blk_drewN ?_ _ | refine blk_drew ?_ | refine blk_alloc ?_ _)); exact BK202.out) hb); have n3_ := Aside0.mk (below_step (by repeat (first | (with_reducible first | exact HB.out | apply below_alloc | apply pw_below_drewN | apply below_drew1 | refine below_set ?_ GE202.out) | exact HB.out)) hb); have n4_ := Aside0.mk (hbox); have n5_ := Aside0.mk ((by rw [hg]; exact (below_size (by repeat (first | (with_reducible first | exact HB.out | apply below_alloc | apply pw_below_drewN | apply below_drew1 | refine below_set ?_ GE202.out) | exact HB.out))) : w.heap.size ≤ gb219)); have n6_ := Aside0.mk ((by rw [hg]; exact (below_size (by repeat (first | (with_reducible first | exact HB.out | apply below_alloc | apply pw_below_drewN | apply below_drew1 | refine below_set ?_ GE202.out) | exact HB.out))) : w.heap.size ≤ gb219)); have n7_ := Aside0.mk ((by rw [hg]; exact Nat.ne_of_lt (blk_lt (g := gb202) (o := .cells #[.int .u16 a2_0, .int .u16 a2_1, .slice A2_2 l2_2.length c2_2] 80 (0, 0)) (by (with_reducible repeat (first | refine blk_drewN ?_ _ | refine blk_drew ?_ | refine blk_alloc ?_ _)); exact BK202.out)) : gb202 ≠ gb219)); have n8_ := Aside0.mk ((by rw [hg]; exact Nat.ne_of_gt (blk_lt (g := gb202) (o := .cells #[.int .u16 a2_0, .int .u16 a2_1, .slice A2_2 l2_2.length c2_2] 80 (0, 0)) (by (with_reducible repeat (first | refine blk_drewN ?_ _ | refine blk_drew ?_ | refine blk_alloc ?_ _)); exact BK202.out)) : gb219 ≠ gb202)); clear HO_13; clear HO217; clear BK202; clear HB; have HO_13 := n0_; have HO217 := n1_; have BK202 := n2_; have HB := n3_; have BK219 := n4_; have GW219 := n5_; have GE219 := n6_; have NB202_219 := n7_; have NB219_202 := n8_; clear n0_ n1_ n2_ n3_ n4_ n5_ n6_ n7_ n8_; clear hb hbox hg; have hnb42 := NB219_202.out; have hnc42 := NB202_219.out; have hcz43_0 : w41.cell? ⟨gb219, 0, none⟩ = some (.int .u16 0) := (blk_cell BK219.out 0).trans rfl; have hcz43_1 : w41.cell? ⟨gb219, 1, none⟩ = some (.int .u16 0) := (blk_cell BK219.out 1).trans rfl; have hcz43_2 : w41.cell? ⟨gb219, 2, none⟩ = some (.slice none 0 0) := (blk_cell BK219.out 2).trans rfl; have hfz43_0 := blk_frozen BK219.out 0; have hfz43_1 := blk_frozen BK219.out 1; have hfz43_2 := blk_frozen BK219.out 2; (try (obtain ⟨Ao44, co44, eo44⟩ := Kd.R_slice HO217.out; subst eo44)))))
            (try simp only [Act.put, List.setIfInBounds_toArray, List.set_cons_zero, List.set_cons_succ])
            go_cut [111] (fun v111 wc => ∃ (kq : Nat) (x111_32 : Bool), v111 = .bool x111_32 ∧ Aside0 (towropelaw08_GramTurned.j2 kq t218 x111_32 a2_0 a2_1 l2_2 t213 t214 t215 = some r) ∧ Aside0 (kq ≤ kj14) ∧ Aside0 (Kd.R (Kd.int .u8) 5 wc w.heap.size (fun _ => True) (.slice Ao44 t215.length co44) t215) ∧ Aside0 (wc.heap[gb202]? = some (.cells #[.int .u16 a2_0, .int .u16 a2_1, (.slice A2_2 l2_2.length c2_2)] 80 (0, 0))) ∧ Aside0 (wc.heap[gb219]? = some (.cells #[.int .u16 t213, .int .u16 t214, (.slice Ao44 t215.length co44)] 80 (0, 0))) ∧ Aside0 (Below w.heap.size w wc))
            case first =>
             have H := HC33.out
             clear HC33
             by_cases c45 : (wrap64 ((wrap64 (256 * (wrap64 (rd t204 (ji24))))) + (wrap64 (rd t204 (ji27))))) = (wrap64 (a4))
             ·
              rw [if_pos c45] at H
              have c45b0 : ((wrap64 ((wrap64 (256 * (wrap64 (rd t204 (ji24))))) + (wrap64 (rd t204 (ji27))))) == (wrap64 (a4))) = true := beq_iff_eq.mpr c45
              have c45b1 : ((wrap64 ((wrap64 (256 * (wrap64 (rd t204 (ji24))))) + (wrap64 (rd t204 (ji27))))) != (wrap64 (a4))) = false := bne_eq_false_iff_eq.mpr c45
              clear c45
              (first | rw [c45b0] | (simp only [i64_w, i32_w]; rw [c45b0]) | skip)
              have H' := Aside0.mk H
              clear H
              go_wp2
              repeat (go_quiet (fail); try go_wp2)
              go_meet
              case rel => exact ⟨_, (true), (by first | rfl | (simp; done) | (simp [*]; done)), H', ⟨by have := HJ5.out; have := HJ14.out; first | omega | exact Nat.le_refl _⟩, ⟨by (with_reducible repeat (first | apply Kd.R_alloc | apply Kd.R_drewN | apply Kd.R_drew)); exact Kd.R_mono (Kd.R_far (p := ⟨gb219, 2, none⟩) (Kd.R_far (p := ⟨gb219, 1, none⟩) (Kd.R_far (p := ⟨gb219, 0, none⟩) (Kd.R_types HO217.out BK219.out (by decide)) (fun _ hk => hk.2) (.int .u16 t213)) (fun _ hk => hk.2) (.int .u16 t214)) (fun _ hk => hk.2) (.slice Ao44 t215.length co44)) (fun _ hk => trivial)⟩, ⟨by (with_reducible repeat (first | refine blk_drewN ?_ _ | refine blk_drew ?_ | refine blk_alloc ?_ _)); refine blk_far ?_ NB202_219.out _; (with_reducible repeat (first | refine blk_drewN ?_ _ | refine blk_drew ?_ | refine blk_alloc ?_ _)); refine blk_far ?_ NB202_219.out _; (with_reducible repeat (first | refine blk_drewN ?_ _ | refine blk_drew ?_ | refine blk_alloc ?_ _)); refine blk_far ?_ NB202_219.out _; (with_reducible repeat (first | refine blk_drewN ?_ _ | refine blk_drew ?_ | refine blk_alloc ?_ _)); exact BK202.out⟩, ⟨by (with_reducible repeat (first | refine blk_drewN ?_ _ | refine blk_drew ?_ | refine blk_alloc ?_ _)); refine blk_put (cs := #[.int .u16 t213, .int .u16 t214, .slice none 0 0]) ?_ 2 _ rfl; (with_reducible repeat (first | refine blk_drewN ?_ _ | refine blk_drew ?_ | refine blk_alloc ?_ _)); refine blk_put (cs := #[.int .u16 t213, .int .u16 0, .slice none 0 0]) ?_ 1 _ rfl; (with_reducible repeat (first | refine blk_drewN ?_ _ | refine blk_drew ?_ | refine blk_alloc ?_ _)); refine blk_put (cs := #[.int .u16 0, .int .u16 0, .slice none 0 0]) ?_ 0 _ rfl; (with_reducible repeat (first | refine blk_drewN ?_ _ | refine blk_drew ?_ | refine blk_alloc ?_ _)); exact BK219.out⟩, ⟨by repeat (first | (with_reducible first | exact HB.out | apply below_alloc | apply pw_below_drewN | apply below_drew1 | refine below_set ?_ GE202.out | refine below_set ?_ GE219.out) | exact HB.out)⟩⟩
             ·
              rw [if_neg c45] at H
              have c45b0 : ((wrap64 ((wrap64 (256 * (wrap64 (rd t204 (ji24))))) + (wrap64 (rd t204 (ji27))))) == (wrap64 (a4))) = false := beq_eq_false_iff_ne.mpr c45
              have c45b1 : ((wrap64 ((wrap64 (256 * (wrap64 (rd t204 (ji24))))) + (wrap64 (rd t204 (ji27))))) != (wrap64 (a4))) = true := bne_iff_ne.mpr c45
              (first | rw [c45b0] | (simp only [i64_w, i32_w]; rw [c45b0]) | skip)
              by_cases c46 : (wrap64 ((wrap64 ((wrap64 (256 * (wrap64 (rd t204 (ji24))))) + (wrap64 (rd t204 (ji27))))) + (wrap64 (a4)))) = 65535
              ·
               rw [if_pos c46] at H
               have c46b0 : ((wrap64 ((wrap64 ((wrap64 (256 * (wrap64 (rd t204 (ji24))))) + (wrap64 (rd t204 (ji27))))) + (wrap64 (a4)))) == 65535) = true := beq_iff_eq.mpr c46
               have c46b1 : ((wrap64 ((wrap64 ((wrap64 (256 * (wrap64 (rd t204 (ji24))))) + (wrap64 (rd t204 (ji27))))) + (wrap64 (a4)))) != 65535) = false := bne_eq_false_iff_eq.mpr c46
               clear c46
               have H' := Aside0.mk H
               clear H
               go_wp2
               repeat (go_quiet (fail); try go_wp2)
               go_meet
               case rel => exact ⟨_, (((wrap64 ((wrap64 ((wrap64 (256 * (wrap64 (rd t204 (ji24))))) + (wrap64 (rd t204 (ji27))))) * (wrap64 (a4)))) == 0)), (by first | rfl | (simp; done) | (simp only [← hji24, ← hji27] <;> (first | rfl | simp)) | (simp [*]; done)), H', ⟨by have := HJ5.out; have := HJ14.out; first | omega | exact Nat.le_refl _⟩, ⟨by (with_reducible repeat (first | apply Kd.R_alloc | apply Kd.R_drewN | apply Kd.R_drew)); exact Kd.R_mono (Kd.R_far (p := ⟨gb219, 2, none⟩) (Kd.R_far (p := ⟨gb219, 1, none⟩) (Kd.R_far (p := ⟨gb219, 0, none⟩) (Kd.R_types HO217.out BK219.out (by decide)) (fun _ hk => hk.2) (.int .u16 t213)) (fun _ hk => hk.2) (.int .u16 t214)) (fun _ hk => hk.2) (.slice Ao44 t215.length co44)) (fun _ hk => trivial)⟩, ⟨by (with_reducible repeat (first | refine blk_drewN ?_ _ | refine blk_drew ?_ | refine blk_alloc ?_ _)); refine blk_far ?_ NB202_219.out _; (with_reducible repeat (first | refine blk_drewN ?_ _ | refine blk_drew ?_ | refine blk_alloc ?_ _)); refine blk_far ?_ NB202_219.out _; (with_reducible repeat (first | refine blk_drewN ?_ _ | refine blk_drew ?_ | refine blk_alloc ?_ _)); refine blk_far ?_ NB202_219.out _; (with_reducible repeat (first | refine blk_drewN ?_ _ | refine blk_drew ?_ | refine blk_alloc ?_ _)); exact BK202.out⟩, ⟨by (with_reducible repeat (first | refine blk_drewN ?_ _ | refine blk_drew ?_ | refine blk_alloc ?_ _)); refine blk_put (cs := #[.int .u16 t213, .int .u16 t214, .slice none 0 0]) ?_ 2 _ rfl; (with_reducible repeat (first | refine blk_drewN ?_ _ | refine blk_drew ?_ | refine blk_alloc ?_ _)); refine blk_put (cs := #[.int .u16 t213, .int .u16 0, .slice none 0 0]) ?_ 1 _ rfl; (with_reducible repeat (first | refine blk_drewN ?_ _ | refine blk_drew ?_ | refine blk_alloc ?_ _)); refine blk_put (cs := #[.int .u16 0, .int .u16 0, .slice none 0 0]) ?_ 0 _ rfl; (with_reducible repeat (first | refine blk_drewN ?_ _ | refine blk_drew ?_ | refine blk_alloc ?_ _)); exact BK219.out⟩, ⟨by repeat (first | (with_reducible first | exact HB.out | apply below_alloc | apply pw_below_drewN | apply below_drew1 | refine below_set ?_ GE202.out | refine below_set ?_ GE219.out) | exact HB.out)⟩⟩
              ·
               rw [if_neg c46] at H
               have c46b0 : ((wrap64 ((wrap64 ((wrap64 (256 * (wrap64 (rd t204 (ji24))))) + (wrap64 (rd t204 (ji27))))) + (wrap64 (a4)))) == 65535) = false := beq_eq_false_iff_ne.mpr c46
               have c46b1 : ((wrap64 ((wrap64 ((wrap64 (256 * (wrap64 (rd t204 (ji24))))) + (wrap64 (rd t204 (ji27))))) + (wrap64 (a4)))) != 65535) = true := bne_iff_ne.mpr c46
               have H' := Aside0.mk H
               clear H
               go_wp2
               repeat (go_quiet (fail); try go_wp2)
               go_meet
               case rel => exact ⟨_, (false), (by first | rfl | (simp; done) | (simp [*]; done)), H', ⟨by have := HJ5.out; have := HJ14.out; first | omega | exact Nat.le_refl _⟩, ⟨by (with_reducible repeat (first | apply Kd.R_alloc | apply Kd.R_drewN | apply Kd.R_drew)); exact Kd.R_mono (Kd.R_far (p := ⟨gb219, 2, none⟩) (Kd.R_far (p := ⟨gb219, 1, none⟩) (Kd.R_far (p := ⟨gb219, 0, none⟩) (Kd.R_types HO217.out BK219.out (by decide)) (fun _ hk => hk.2) (.int .u16 t213)) (fun _ hk => hk.2) (.int .u16 t214)) (fun _ hk => hk.2) (.slice Ao44 t215.length co44)) (fun _ hk => trivial)⟩, ⟨by (with_reducible repeat (first | refine blk_drewN ?_ _ | refine blk_drew ?_ | refine blk_alloc ?_ _)); refine blk_far ?_ NB202_219.out _; (with_reducible repeat (first | refine blk_drewN ?_ _ | refine blk_drew ?_ | refine blk_alloc ?_ _)); refine blk_far ?_ NB202_219.out _; (with_reducible repeat (first | refine blk_drewN ?_ _ | refine blk_drew ?_ | refine blk_alloc ?_ _)); refine blk_far ?_ NB202_219.out _; (with_reducible repeat (first | refine blk_drewN ?_ _ | refine blk_drew ?_ | refine blk_alloc ?_ _)); exact BK202.out⟩, ⟨by (with_reducible repeat (first | refine blk_drewN ?_ _ | refine blk_drew ?_ | refine blk_alloc ?_ _)); refine blk_put (cs := #[.int .u16 t213, .int .u16 t214, .slice none 0 0]) ?_ 2 _ rfl; (with_reducible repeat (first | refine blk_drewN ?_ _ | refine blk_drew ?_ | refine blk_alloc ?_ _)); refine blk_put (cs := #[.int .u16 t213, .int .u16 0, .slice none 0 0]) ?_ 1 _ rfl; (with_reducible repeat (first | refine blk_drewN ?_ _ | refine blk_drew ?_ | refine blk_alloc ?_ _)); refine blk_put (cs := #[.int .u16 0, .int .u16 0, .slice none 0 0]) ?_ 0 _ rfl; (with_reducible repeat (first | refine blk_drewN ?_ _ | refine blk_drew ?_ | refine blk_alloc ?_ _)); exact BK219.out⟩, ⟨by repeat (first | (with_reducible first | exact HB.out | apply below_alloc | apply pw_below_drewN | apply below_drew1 | refine below_set ?_ GE202.out | refine below_set ?_ GE219.out) | exact HB.out)⟩⟩
            case rest =>
             clear HC33
             try clear c1
             try clear c2
             try clear p2
             try clear q2
             try clear hx2
             try clear p3
             try clear q3
             try clear hx3
             try clear c4
             try clear p6
             try clear c8
             try clear c8b0
             try clear c8b1
             try clear c11
             try clear c13
             try clear c19
             try clear c19b0
             try clear c19b1
             try clear p20
             try clear q20
             try clear hx20
             try clear p21
             try clear q21
             try clear hx21
             try clear c22
             try clear c23
             try clear c23b0
             try clear c23b1
             try clear c25
             try clear c25b0
             try clear c26
             try clear c26b0
             try clear c28
             try clear c28b0
             try clear c29
             try clear c29b0
             try clear p30
             try clear q30
             try clear hx30
             try clear hf30
             try clear p31
             try clear q31
             try clear hx31
             try clear hf31
             try clear c42
             try clear c45
             try clear c45b0
             try clear c45b1
             try clear c46
             try clear c46b0
             try clear c46b1
             try clear hcz10_0
             try clear hcz10_1
             try clear hcz10_2
             try clear hcz16_0
             try clear hcz16_1
             try clear hcz16_2
             try clear hcz21_0
             try clear hcz21_1
             try clear hcz21_2
             try clear hcz34_0
             try clear hcz34_1
             try clear hcz34_2
             try clear hcz43_0
             try clear hcz43_1
             try clear hcz43_2
             try clear hcz9_0
             try clear hcz9_1
             try clear hcz9_2
             try clear hfz10_0
             try clear hfz10_1
             try clear hfz10_2
             try clear hfz16_0
             try clear hfz16_1
             try clear hfz16_2
             try clear hfz21_0
             try clear hfz21_1
             try clear hfz21_2
             try clear hfz34_0
             try clear hfz34_1
             try clear hfz34_2
             try clear hfz43_0
             try clear hfz43_1
             try clear hfz43_2
             try clear hfz9_0
             try clear hfz9_1
             try clear hfz9_2
             try clear hx209_0
             try clear hx210_0
             try clear hx30_0
             try clear hx31_0
             try clear p2
             try clear p209
             try clear p210
             try clear p30
             try clear p31
             try clear p6
             try clear q209
             try clear q210
             try clear q30
             try clear q31
             obtain ⟨kq, x111_32, rfl, HA, HJ32, HO_220002, BK202, BK219, HB⟩ := hcut
             cases kq with
             | zero => exact absurd HA.out (by simp [towropelaw08_GramTurned.j2])
             | succ kj32 =>
              have H := HA.out
              clear HA
              simp only [towropelaw08_GramTurned.j2] at H
              by_cases c47 : x111_32 = true
              ·
               subst c47
               have H1 : ((towropelaw08_code.f t218).bind fun t220 => (if t220 = 0 then (if (t215.length : Int) = (l2_2.length : Int) then ((towropelaw08_live.f kj32).bind fun t221 => (some t221)) else (some false)) else (some false))) = some r := by rw [if_pos rfl] at H; exact H
               clear H
               have H := H1
               clear H1
               replace H := Option.bind_eq_some_iff.mp H
               obtain ⟨t220, A480, H⟩ := H
               replace H : (if t220 = 0 then (if (t215.length : Int) = (l2_2.length : Int) then ((towropelaw08_live.f kj32).bind fun t221 => (some t221)) else (some false)) else (some false)) = some r := H
               have A48 := Aside0.mk A480
               clear A480
               by_cases c49 : t220 = 0
               ·
                rw [if_pos c49] at H
                have c49b0 : (t220 == 0) = true := beq_iff_eq.mpr c49
                have c49b1 : (t220 != 0) = false := bne_eq_false_iff_eq.mpr c49
                clear c49
                by_cases c50 : (t215.length : Int) = (l2_2.length : Int)
                ·
                 rw [if_pos c50] at H
                 have c50b0 : ((t215.length : Int) == (l2_2.length : Int)) = true := beq_iff_eq.mpr c50
                 have c50b1 : ((t215.length : Int) != (l2_2.length : Int)) = false := bne_eq_false_iff_eq.mpr c50
                 have c50b2 : (t215.length == l2_2.length) = true := by first | simpa using c50 | (simp at c50 ⊢; omega)
                 clear c50
                 replace H := Option.bind_eq_some_iff.mp H
                 obtain ⟨t221, A510, H⟩ := H
                 replace H : (some t221) = some r := H
                 have A51 := Aside0.mk A510
                 clear A510
                 obtain rfl := Option.some.inj H
                 go_wp2_with (first | (go_at_call 49; (with_reducible refine (towropelaw08_code.calls t218 t220 _ A48.out).mono ?_); rintro e w' ⟨rfl, ⟨nd, rfl⟩⟩; (try first | exact ⟨rfl, _, World.drewN_drewN _ _ _⟩ | exact ⟨rfl, _, Eq.trans (World.drewN_drewN _ _ _) (congrArg (World.drewN _) (Nat.add_assoc _ _ _))⟩); have hnb52 := NB219_202.out; have hnc52 := NB202_219.out; have hcz53_0 : wc.cell? ⟨gb219, 0, none⟩ = some (.int .u16 t213) := (blk_cell BK219.out 0).trans rfl; have hcz53_1 : wc.cell? ⟨gb219, 1, none⟩ = some (.int .u16 t214) := (blk_cell BK219.out 1).trans rfl; have hcz53_2 : wc.cell? ⟨gb219, 2, none⟩ = some (.slice Ao44 t215.length co44) := (blk_cell BK219.out 2).trans rfl; have hfz53_0 := blk_frozen BK219.out 0; have hfz53_1 := blk_frozen BK219.out 1; have hfz53_2 := blk_frozen BK219.out 2; have hcz54_0 : wc.cell? ⟨gb202, 0, none⟩ = some (.int .u16 a2_0) := (blk_cell BK202.out 0).trans rfl; have hcz54_1 : wc.cell? ⟨gb202, 1, none⟩ = some (.int .u16 a2_1) := (blk_cell BK202.out 1).trans rfl; have hcz54_2 : wc.cell? ⟨gb202, 2, none⟩ = some (.slice A2_2 l2_2.length c2_2) := (blk_cell BK202.out 2).trans rfl; have hfz54_0 := blk_frozen BK202.out 0; have hfz54_1 := blk_frozen BK202.out 1; have hfz54_2 := blk_frozen BK202.out 2) | (go_at_call 45; (with_reducible refine (towropelaw08_live.calls kj32  t221 _ A51.out).mono ?_); rintro e w55 ⟨rfl, hb⟩; have n0_ := Aside0.mk (Kd.R_below (by (with_reducible repeat (first | apply Kd.R_alloc | apply Kd.R_drewN | apply Kd.R_drew)); exact HO_220002.out) hb); have n1_ := Aside0.mk (blk_below (g := gb202) (o := .cells #[.int .u16 a2_0, .int .u16 a2_1, .slice A2_2 l2_2.length c2_2] 80 (0, 0)) (by (with_reducible repeat (first | refine blk_drewN ?_ _ | refine blk_drew ?_ | refine blk_alloc ?_ _)); exact BK202.out) hb); have n2_ := Aside0.mk (blk_below (g := gb219) (o := .cells #[.int .u16 t213, .int .u16 t214, .slice Ao44 t215.length co44] 80 (0, 0)) (by (with_reducible repeat (first | refine blk_drewN ?_ _ | refine blk_drew ?_ | refine blk_alloc ?_ _)); exact BK219.out) hb); have n3_ := Aside0.mk (below_step (by repeat (first | (with_reducible first | exact HB.out | apply below_alloc | apply pw_below_drewN | apply below_drew1 | refine below_set ?_ GE202.out | refine below_set ?_ GE219.out) | exact HB.out)) hb); clear HO_220002; clear BK202; clear BK219; clear HB; have HO_220002 := n0_; have BK202 := n1_; have BK219 := n2_; have HB := n3_; clear n0_ n1_ n2_ n3_; (try clear hb); (try clear hb2); (try clear hk); (try clear hi)))
                 repeat (go_quiet (first | (go_at_call 49; (with_reducible refine (towropelaw08_code.calls t218 t220 _ A48.out).mono ?_); rintro e w' ⟨rfl, ⟨nd, rfl⟩⟩; (try first | exact ⟨rfl, _, World.drewN_drewN _ _ _⟩ | exact ⟨rfl, _, Eq.trans (World.drewN_drewN _ _ _) (congrArg (World.drewN _) (Nat.add_assoc _ _ _))⟩); have hnb52 := NB219_202.out; have hnc52 := NB202_219.out; have hcz53_0 : wc.cell? ⟨gb219, 0, none⟩ = some (.int .u16 t213) := (blk_cell BK219.out 0).trans rfl; have hcz53_1 : wc.cell? ⟨gb219, 1, none⟩ = some (.int .u16 t214) := (blk_cell BK219.out 1).trans rfl; have hcz53_2 : wc.cell? ⟨gb219, 2, none⟩ = some (.slice Ao44 t215.length co44) := (blk_cell BK219.out 2).trans rfl; have hfz53_0 := blk_frozen BK219.out 0; have hfz53_1 := blk_frozen BK219.out 1; have hfz53_2 := blk_frozen BK219.out 2; have hcz54_0 : wc.cell? ⟨gb202, 0, none⟩ = some (.int .u16 a2_0) := (blk_cell BK202.out 0).trans rfl; have hcz54_1 : wc.cell? ⟨gb202, 1, none⟩ = some (.int .u16 a2_1) := (blk_cell BK202.out 1).trans rfl; have hcz54_2 : wc.cell? ⟨gb202, 2, none⟩ = some (.slice A2_2 l2_2.length c2_2) := (blk_cell BK202.out 2).trans rfl; have hfz54_0 := blk_frozen BK202.out 0; have hfz54_1 := blk_frozen BK202.out 1; have hfz54_2 := blk_frozen BK202.out 2) | (go_at_call 45; (with_reducible refine (towropelaw08_live.calls kj32  t221 _ A51.out).mono ?_); rintro e w55 ⟨rfl, hb⟩; have n0_ := Aside0.mk (Kd.R_below (by (with_reducible repeat (first | apply Kd.R_alloc | apply Kd.R_drewN | apply Kd.R_drew)); exact HO_220002.out) hb); have n1_ := Aside0.mk (blk_below (g := gb202) (o := .cells #[.int .u16 a2_0, .int .u16 a2_1, .slice A2_2 l2_2.length c2_2] 80 (0, 0)) (by (with_reducible repeat (first | refine blk_drewN ?_ _ | refine blk_drew ?_ | refine blk_alloc ?_ _)); exact BK202.out) hb); have n2_ := Aside0.mk (blk_below (g := gb219) (o := .cells #[.int .u16 t213, .int .u16 t214, .slice Ao44 t215.length co44] 80 (0, 0)) (by (with_reducible repeat (first | refine blk_drewN ?_ _ | refine blk_drew ?_ | refine blk_alloc ?_ _)); exact BK219.out) hb); have n3_ := Aside0.mk (below_step (by repeat (first | (with_reducible first | exact HB.out | apply below_alloc | apply pw_below_drewN | apply below_drew1 | refine below_set ?_ GE202.out | refine below_set ?_ GE219.out) | exact HB.out)) hb); clear HO_220002; clear BK202; clear BK219; clear HB; have HO_220002 := n0_; have BK202 := n1_; have BK219 := n2_; have HB := n3_; clear n0_ n1_ n2_ n3_; (try clear hb); (try clear hb2); (try clear hk); (try clear hi))); try go_wp2_with (first | (go_at_call 49; (with_reducible refine (towropelaw08_code.calls t218 t220 _ A48.out).mono ?_); rintro e w' ⟨rfl, ⟨nd, rfl⟩⟩; (try first | exact ⟨rfl, _, World.drewN_drewN _ _ _⟩ | exact ⟨rfl, _, Eq.trans (World.drewN_drewN _ _ _) (congrArg (World.drewN _) (Nat.add_assoc _ _ _))⟩); have hnb52 := NB219_202.out; have hnc52 := NB202_219.out; have hcz53_0 : wc.cell? ⟨gb219, 0, none⟩ = some (.int .u16 t213) := (blk_cell BK219.out 0).trans rfl; have hcz53_1 : wc.cell? ⟨gb219, 1, none⟩ = some (.int .u16 t214) := (blk_cell BK219.out 1).trans rfl; have hcz53_2 : wc.cell? ⟨gb219, 2, none⟩ = some (.slice Ao44 t215.length co44) := (blk_cell BK219.out 2).trans rfl; have hfz53_0 := blk_frozen BK219.out 0; have hfz53_1 := blk_frozen BK219.out 1; have hfz53_2 := blk_frozen BK219.out 2; have hcz54_0 : wc.cell? ⟨gb202, 0, none⟩ = some (.int .u16 a2_0) := (blk_cell BK202.out 0).trans rfl; have hcz54_1 : wc.cell? ⟨gb202, 1, none⟩ = some (.int .u16 a2_1) := (blk_cell BK202.out 1).trans rfl; have hcz54_2 : wc.cell? ⟨gb202, 2, none⟩ = some (.slice A2_2 l2_2.length c2_2) := (blk_cell BK202.out 2).trans rfl; have hfz54_0 := blk_frozen BK202.out 0; have hfz54_1 := blk_frozen BK202.out 1; have hfz54_2 := blk_frozen BK202.out 2) | (go_at_call 45; (with_reducible refine (towropelaw08_live.calls kj32  t221 _ A51.out).mono ?_); rintro e w55 ⟨rfl, hb⟩; have n0_ := Aside0.mk (Kd.R_below (by (with_reducible repeat (first | apply Kd.R_alloc | apply Kd.R_drewN | apply Kd.R_drew)); exact HO_220002.out) hb); have n1_ := Aside0.mk (blk_below (g := gb202) (o := .cells #[.int .u16 a2_0, .int .u16 a2_1, .slice A2_2 l2_2.length c2_2] 80 (0, 0)) (by (with_reducible repeat (first | refine blk_drewN ?_ _ | refine blk_drew ?_ | refine blk_alloc ?_ _)); exact BK202.out) hb); have n2_ := Aside0.mk (blk_below (g := gb219) (o := .cells #[.int .u16 t213, .int .u16 t214, .slice Ao44 t215.length co44] 80 (0, 0)) (by (with_reducible repeat (first | refine blk_drewN ?_ _ | refine blk_drew ?_ | refine blk_alloc ?_ _)); exact BK219.out) hb); have n3_ := Aside0.mk (below_step (by repeat (first | (with_reducible first | exact HB.out | apply below_alloc | apply pw_below_drewN | apply below_drew1 | refine below_set ?_ GE202.out | refine below_set ?_ GE219.out) | exact HB.out)) hb); clear HO_220002; clear BK202; clear BK219; clear HB; have HO_220002 := n0_; have BK202 := n1_; have BK219 := n2_; have HB := n3_; clear n0_ n1_ n2_ n3_; (try clear hb); (try clear hb2); (try clear hk); (try clear hi))))
                 go_ret
                 exact ⟨by first | rfl | (simp [errW_none, errW_some] <;> rfl) | (simp only [← hji24, ← hji27]; first | rfl | (simp [errW_none, errW_some] <;> rfl)) | (simp [*, errW_none, errW_some] <;> rfl), by repeat (first | (with_reducible first | exact HB.out | apply below_alloc | apply pw_below_drewN | apply below_drew1 | refine below_set ?_ GE202.out | refine below_set ?_ GE219.out) | exact HB.out)⟩
                ·
                 rw [if_neg c50] at H
                 have c50b0 : ((t215.length : Int) == (l2_2.length : Int)) = false := beq_eq_false_iff_ne.mpr c50
                 have c50b1 : ((t215.length : Int) != (l2_2.length : Int)) = true := bne_iff_ne.mpr c50
                 have c50b2 : (t215.length == l2_2.length) = false := by first | simpa using c50 | (simp at c50 ⊢; omega)
                 exact absurd ((Option.some.inj H).trans HRT.out) (by decide)
               ·
                rw [if_neg c49] at H
                have c49b0 : (t220 == 0) = false := beq_eq_false_iff_ne.mpr c49
                have c49b1 : (t220 != 0) = true := bne_iff_ne.mpr c49
                exact absurd ((Option.some.inj H).trans HRT.out) (by decide)
              ·
               replace c47 := Bool.eq_false_iff.mpr c47
               subst c47
               have H1 : ((towropelaw08_code.f t218).bind fun t222 => (if t222 = 4 then (if (t215.length : Int) = 0 then ((towropelaw08_live.f kj32).bind fun t223 => (some t223)) else (some false)) else (some false))) = some r := by rw [if_neg (show ¬ (false = true) by decide)] at H; exact H
               clear H
               have H := H1
               clear H1
               replace H := Option.bind_eq_some_iff.mp H
               obtain ⟨t222, A590, H⟩ := H
               replace H : (if t222 = 4 then (if (t215.length : Int) = 0 then ((towropelaw08_live.f kj32).bind fun t223 => (some t223)) else (some false)) else (some false)) = some r := H
               have A59 := Aside0.mk A590
               clear A590
               by_cases c60 : t222 = 4
               ·
                rw [if_pos c60] at H
                have c60b0 : (t222 == 4) = true := beq_iff_eq.mpr c60
                have c60b1 : (t222 != 4) = false := bne_eq_false_iff_eq.mpr c60
                clear c60
                by_cases c61 : (t215.length : Int) = 0
                ·
                 rw [if_pos c61] at H
                 have c61b0 : ((t215.length : Int) == 0) = true := beq_iff_eq.mpr c61
                 have c61b1 : ((t215.length : Int) != 0) = false := bne_eq_false_iff_eq.mpr c61
                 clear c61
                 replace H := Option.bind_eq_some_iff.mp H
                 obtain ⟨t223, A620, H⟩ := H
                 replace H : (some t223) = some r := H
                 have A62 := Aside0.mk A620
                 clear A620
                 obtain rfl := Option.some.inj H
                 go_wp2_with (first | (go_at_call 49; (with_reducible refine (towropelaw08_code.calls t218 t222 _ A59.out).mono ?_); rintro e w' ⟨rfl, ⟨nd, rfl⟩⟩; (try first | exact ⟨rfl, _, World.drewN_drewN _ _ _⟩ | exact ⟨rfl, _, Eq.trans (World.drewN_drewN _ _ _) (congrArg (World.drewN _) (Nat.add_assoc _ _ _))⟩); have hnb63 := NB219_202.out; have hnc63 := NB202_219.out; have hcz64_0 : wc.cell? ⟨gb219, 0, none⟩ = some (.int .u16 t213) := (blk_cell BK219.out 0).trans rfl; have hcz64_1 : wc.cell? ⟨gb219, 1, none⟩ = some (.int .u16 t214) := (blk_cell BK219.out 1).trans rfl; have hcz64_2 : wc.cell? ⟨gb219, 2, none⟩ = some (.slice Ao44 t215.length co44) := (blk_cell BK219.out 2).trans rfl; have hfz64_0 := blk_frozen BK219.out 0; have hfz64_1 := blk_frozen BK219.out 1; have hfz64_2 := blk_frozen BK219.out 2) | (go_at_call 45; (with_reducible refine (towropelaw08_live.calls kj32  t223 _ A62.out).mono ?_); rintro e w65 ⟨rfl, hb⟩; have n0_ := Aside0.mk (Kd.R_below (by (with_reducible repeat (first | apply Kd.R_alloc | apply Kd.R_drewN | apply Kd.R_drew)); exact HO_220002.out) hb); have n1_ := Aside0.mk (blk_below (g := gb202) (o := .cells #[.int .u16 a2_0, .int .u16 a2_1, .slice A2_2 l2_2.length c2_2] 80 (0, 0)) (by (with_reducible repeat (first | refine blk_drewN ?_ _ | refine blk_drew ?_ | refine blk_alloc ?_ _)); exact BK202.out) hb); have n2_ := Aside0.mk (blk_below (g := gb219) (o := .cells #[.int .u16 t213, .int .u16 t214, .slice Ao44 t215.length co44] 80 (0, 0)) (by (with_reducible repeat (first | refine blk_drewN ?_ _ | refine blk_drew ?_ | refine blk_alloc ?_ _)); exact BK219.out) hb); have n3_ := Aside0.mk (below_step (by repeat (first | (with_reducible first | exact HB.out | apply below_alloc | apply pw_below_drewN | apply below_drew1 | refine below_set ?_ GE202.out | refine below_set ?_ GE219.out) | exact HB.out)) hb); clear HO_220002; clear BK202; clear BK219; clear HB; have HO_220002 := n0_; have BK202 := n1_; have BK219 := n2_; have HB := n3_; clear n0_ n1_ n2_ n3_; (try clear hb); (try clear hb2); (try clear hk); (try clear hi)))
                 repeat (go_quiet (first | (go_at_call 49; (with_reducible refine (towropelaw08_code.calls t218 t222 _ A59.out).mono ?_); rintro e w' ⟨rfl, ⟨nd, rfl⟩⟩; (try first | exact ⟨rfl, _, World.drewN_drewN _ _ _⟩ | exact ⟨rfl, _, Eq.trans (World.drewN_drewN _ _ _) (congrArg (World.drewN _) (Nat.add_assoc _ _ _))⟩); have hnb63 := NB219_202.out; have hnc63 := NB202_219.out; have hcz64_0 : wc.cell? ⟨gb219, 0, none⟩ = some (.int .u16 t213) := (blk_cell BK219.out 0).trans rfl; have hcz64_1 : wc.cell? ⟨gb219, 1, none⟩ = some (.int .u16 t214) := (blk_cell BK219.out 1).trans rfl; have hcz64_2 : wc.cell? ⟨gb219, 2, none⟩ = some (.slice Ao44 t215.length co44) := (blk_cell BK219.out 2).trans rfl; have hfz64_0 := blk_frozen BK219.out 0; have hfz64_1 := blk_frozen BK219.out 1; have hfz64_2 := blk_frozen BK219.out 2) | (go_at_call 45; (with_reducible refine (towropelaw08_live.calls kj32  t223 _ A62.out).mono ?_); rintro e w65 ⟨rfl, hb⟩; have n0_ := Aside0.mk (Kd.R_below (by (with_reducible repeat (first | apply Kd.R_alloc | apply Kd.R_drewN | apply Kd.R_drew)); exact HO_220002.out) hb); have n1_ := Aside0.mk (blk_below (g := gb202) (o := .cells #[.int .u16 a2_0, .int .u16 a2_1, .slice A2_2 l2_2.length c2_2] 80 (0, 0)) (by (with_reducible repeat (first | refine blk_drewN ?_ _ | refine blk_drew ?_ | refine blk_alloc ?_ _)); exact BK202.out) hb); have n2_ := Aside0.mk (blk_below (g := gb219) (o := .cells #[.int .u16 t213, .int .u16 t214, .slice Ao44 t215.length co44] 80 (0, 0)) (by (with_reducible repeat (first | refine blk_drewN ?_ _ | refine blk_drew ?_ | refine blk_alloc ?_ _)); exact BK219.out) hb); have n3_ := Aside0.mk (below_step (by repeat (first | (with_reducible first | exact HB.out | apply below_alloc | apply pw_below_drewN | apply below_drew1 | refine below_set ?_ GE202.out | refine below_set ?_ GE219.out) | exact HB.out)) hb); clear HO_220002; clear BK202; clear BK219; clear HB; have HO_220002 := n0_; have BK202 := n1_; have BK219 := n2_; have HB := n3_; clear n0_ n1_ n2_ n3_; (try clear hb); (try clear hb2); (try clear hk); (try clear hi))); try go_wp2_with (first | (go_at_call 49; (with_reducible refine (towropelaw08_code.calls t218 t222 _ A59.out).mono ?_); rintro e w' ⟨rfl, ⟨nd, rfl⟩⟩; (try first | exact ⟨rfl, _, World.drewN_drewN _ _ _⟩ | exact ⟨rfl, _, Eq.trans (World.drewN_drewN _ _ _) (congrArg (World.drewN _) (Nat.add_assoc _ _ _))⟩); have hnb63 := NB219_202.out; have hnc63 := NB202_219.out; have hcz64_0 : wc.cell? ⟨gb219, 0, none⟩ = some (.int .u16 t213) := (blk_cell BK219.out 0).trans rfl; have hcz64_1 : wc.cell? ⟨gb219, 1, none⟩ = some (.int .u16 t214) := (blk_cell BK219.out 1).trans rfl; have hcz64_2 : wc.cell? ⟨gb219, 2, none⟩ = some (.slice Ao44 t215.length co44) := (blk_cell BK219.out 2).trans rfl; have hfz64_0 := blk_frozen BK219.out 0; have hfz64_1 := blk_frozen BK219.out 1; have hfz64_2 := blk_frozen BK219.out 2) | (go_at_call 45; (with_reducible refine (towropelaw08_live.calls kj32  t223 _ A62.out).mono ?_); rintro e w65 ⟨rfl, hb⟩; have n0_ := Aside0.mk (Kd.R_below (by (with_reducible repeat (first | apply Kd.R_alloc | apply Kd.R_drewN | apply Kd.R_drew)); exact HO_220002.out) hb); have n1_ := Aside0.mk (blk_below (g := gb202) (o := .cells #[.int .u16 a2_0, .int .u16 a2_1, .slice A2_2 l2_2.length c2_2] 80 (0, 0)) (by (with_reducible repeat (first | refine blk_drewN ?_ _ | refine blk_drew ?_ | refine blk_alloc ?_ _)); exact BK202.out) hb); have n2_ := Aside0.mk (blk_below (g := gb219) (o := .cells #[.int .u16 t213, .int .u16 t214, .slice Ao44 t215.length co44] 80 (0, 0)) (by (with_reducible repeat (first | refine blk_drewN ?_ _ | refine blk_drew ?_ | refine blk_alloc ?_ _)); exact BK219.out) hb); have n3_ := Aside0.mk (below_step (by repeat (first | (with_reducible first | exact HB.out | apply below_alloc | apply pw_below_drewN | apply below_drew1 | refine below_set ?_ GE202.out | refine below_set ?_ GE219.out) | exact HB.out)) hb); clear HO_220002; clear BK202; clear BK219; clear HB; have HO_220002 := n0_; have BK202 := n1_; have BK219 := n2_; have HB := n3_; clear n0_ n1_ n2_ n3_; (try clear hb); (try clear hb2); (try clear hk); (try clear hi))))
                 go_ret
                 exact ⟨by first | rfl | (simp [errW_none, errW_some] <;> rfl) | (simp only [← hji24, ← hji27]; first | rfl | (simp [errW_none, errW_some] <;> rfl)) | (simp [*, errW_none, errW_some] <;> rfl), by repeat (first | (with_reducible first | exact HB.out | apply below_alloc | apply pw_below_drewN | apply below_drew1 | refine below_set ?_ GE202.out | refine below_set ?_ GE219.out) | exact HB.out)⟩
                ·
                 rw [if_neg c61] at H
                 have c61b0 : ((t215.length : Int) == 0) = false := beq_eq_false_iff_ne.mpr c61
                 have c61b1 : ((t215.length : Int) != 0) = true := bne_iff_ne.mpr c61
                 have c61b2 : ¬ (t215 = []) := fun h_ => c61 (by rw [h_]; rfl)
                 exact absurd ((Option.some.inj H).trans HRT.out) (by decide)
               ·
                rw [if_neg c60] at H
                have c60b0 : (t222 == 4) = false := beq_eq_false_iff_ne.mpr c60
                have c60b1 : (t222 != 4) = true := bne_iff_ne.mpr c60
                exact absurd ((Option.some.inj H).trans HRT.out) (by decide)
           ·
            rw [if_neg c29] at H
            exact absurd H (by simp)
          ·
           rw [if_neg c28] at H
           exact absurd H (by simp)
         ·
          rw [if_neg c26] at H
          exact absurd H (by simp)
        ·
         rw [if_neg c25] at H
         exact absurd H (by simp)

end Go.Proofs.Ytfmfpofbefgbgaa.PGramT
