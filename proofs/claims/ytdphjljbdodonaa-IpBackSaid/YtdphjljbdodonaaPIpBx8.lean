-- Laid by a program of this session (wip/tools/mk.py) over the kit's print: functions, contracts, walks; not written by hand, not trusted: Lean checks it.
import Derived.Test.YtdphjljbdodonaaPIpBx0
import Derived.Test.YtdphjljbdodonaaPIpBx1
import Derived.Test.YtdphjljbdodonaaPIpBx4
import Derived.Test.YtdphjljbdodonaaPIpBx5
import Derived.Test.YtdphjljbdodonaaPIpBx7
namespace Go.Proofs.Ytdphjljbdodonaa.PIpB
open Go.RowKit Go.Proofs.YtdphjljbdodonaaW.PrintWords Go.Proofs.YtdphjljbdodonaaW.PrintLast Go.Proofs.YtdphjljbdodonaaW.PrintMore
attribute [local go_sem] max2_int min2_int max_two min_two max_three min_three max_four min_four   -- for this text's walks alone
set_option linter.unusedVariables false
set_option linter.unusedSimpArgs false

/-! ### towropelaw06_IpBack: function 11 -/
def towropelaw06_IpBack.j0 : Nat → List Int → List Int → Bool → Option (Bool)
 | 0, _, _, _ => none
 | k + 1, x0, x5, x39 => if x39 = true then (some false) else (if 10 < (x0.length : Int) then (if (rd x0 10) = 255 then (if 11 < (x0.length : Int) then (if (rd x0 11) = 255 then (if 10 < (x5.length : Int) then (if (rd x5 10) = 0 then (if 11 < (x5.length : Int) then (if (rd x5 11) = 0 then (if 0 ≤ (x5.length : Int) then (if (x5.length : Int) ≤ (x0.length : Int) then (if (strOfNums ((x5.set (10 : Int).toNat 255).set (11 : Int).toNat 255)).toList = (strOfNums (x0.take x5.length)).toList then ((towropelaw06_live.f k).bind fun t253 => (some t253)) else (some false)) else (none)) else (none)) else (if 0 ≤ (x5.length : Int) then (if (x5.length : Int) ≤ (x0.length : Int) then (if (strOfNums x5).toList = (strOfNums (x0.take x5.length)).toList then ((towropelaw06_live.f k).bind fun t255 => (some t255)) else (some false)) else (none)) else (none))) else (none)) else (if 0 ≤ (x5.length : Int) then (if (x5.length : Int) ≤ (x0.length : Int) then (if (strOfNums x5).toList = (strOfNums (x0.take x5.length)).toList then ((towropelaw06_live.f k).bind fun t257 => (some t257)) else (some false)) else (none)) else (none))) else (none)) else (if 0 ≤ (x5.length : Int) then (if (x5.length : Int) ≤ (x0.length : Int) then (if (strOfNums x5).toList = (strOfNums (x0.take x5.length)).toList then ((towropelaw06_live.f k).bind fun t259 => (some t259)) else (some false)) else (none)) else (none))) else (none)) else (if 0 ≤ (x5.length : Int) then (if (x5.length : Int) ≤ (x0.length : Int) then (if (strOfNums x5).toList = (strOfNums (x0.take x5.length)).toList then ((towropelaw06_live.f k).bind fun t261 => (some t261)) else (some false)) else (none)) else (none))) else (none))
def towropelaw06_IpBack.f (k : Nat) (l0 : List Int) : Option (Bool) := if (l0.length : Int) > 70000 then ((towropelaw06_live.f k).bind fun t221 => (some t221)) else ((ip_Get.f k l0).bind fun bt222 => ((towropelaw06_code.f bt222.2.2.2.2.2.2.2.2.2.2.2).bind fun t239 => (if t239 = 0 then ((ip_Put.f k bt222.1 bt222.2.1 bt222.2.2.1 bt222.2.2.2.1 bt222.2.2.2.2.1 bt222.2.2.2.2.2.1 bt222.2.2.2.2.2.2.1 bt222.2.2.2.2.2.2.2.1 bt222.2.2.2.2.2.2.2.2.1 bt222.2.2.2.2.2.2.2.2.2.1 bt222.2.2.2.2.2.2.2.2.2.2.1).bind fun bt241 => ((towropelaw06_code.f bt241.2).bind fun t245 => (if t245 = 0 then (if (bt241.1.length : Int) > (l0.length : Int) then (towropelaw06_IpBack.j0 k l0 bt241.1 true) else (towropelaw06_IpBack.j0 k l0 bt241.1 (decide ((bt241.1.length : Int) < 20)))) else (towropelaw06_IpBack.j0 k l0 bt241.1 true)))) else ((towropelaw06_live.f k).bind fun t240 => (some t240)))))
theorem towropelaw06_IpBack.mono_l : ∀ k, (∀ y0 y1 y2, LeO (towropelaw06_IpBack.j0 k y0 y1 y2) (towropelaw06_IpBack.j0 (k + 1) y0 y1 y2))
 | 0 => fun _ _ _ r h => by simp [towropelaw06_IpBack.j0] at h
 | k + 1 => by
  have ih0 := towropelaw06_IpBack.mono_l k
  ·
   intro y0 y1 y2
   unfold towropelaw06_IpBack.j0
   repeat' first
   | (with_reducible exact ih0 _ _ _)
   | (with_reducible exact ip_Get.mono _ _)
   | (with_reducible exact ip_Put.mono _ _ _ _ _ _ _ _ _ _ _ _)
   | (with_reducible exact towropelaw06_live.mono _)
   | (with_reducible exact LeO.refl _)
   | (with_reducible exact LeO.none _)
   | (with_reducible refine LeO.ite ?_ ?_)
   | (with_reducible refine LeO.bind ?_ (fun _ => ?_))
   | exact ih0 _ _ _
   | exact ip_Get.mono _ _
   | exact ip_Put.mono _ _ _ _ _ _ _ _ _ _ _ _
   | exact towropelaw06_live.mono _
   | exact LeO.none _
   | refine LeO.ite ?_ ?_
   | refine LeO.bind ?_ (fun _ => ?_)
theorem towropelaw06_IpBack.mono : ∀ a0 k, LeO (towropelaw06_IpBack.f k a0) (towropelaw06_IpBack.f (k + 1) a0) := by
 intro a0 k
 have ih0 := towropelaw06_IpBack.mono_l k
 unfold towropelaw06_IpBack.f
 repeat' first
   | (with_reducible exact ih0 _ _ _)
   | (with_reducible exact ip_Get.mono _ _)
   | (with_reducible exact ip_Put.mono _ _ _ _ _ _ _ _ _ _ _ _)
   | (with_reducible exact towropelaw06_live.mono _)
   | (with_reducible exact LeO.refl _)
   | (with_reducible exact LeO.none _)
   | (with_reducible refine LeO.ite ?_ ?_)
   | (with_reducible refine LeO.bind ?_ (fun _ => ?_))
   | exact ih0 _ _ _
   | exact ip_Get.mono _ _
   | exact ip_Put.mono _ _ _ _ _ _ _ _ _ _ _ _
   | exact towropelaw06_live.mono _
   | exact LeO.none _
   | refine LeO.ite ?_ ?_
   | refine LeO.bind ?_ (fun _ => ?_)
def towropelaw06_IpBack.T11 : Bool × List (List Nat × List Nat) := (true, [([], []), ([0], [0]), ([], []), ([], []), ([3], [3]), ([2, 4], [2, 4]), ([5], [5]), ([1, 6], [1, 6]), ([7], [7]), ([8, 8], [8]), ([8, 9], [8, 9]), ([10, 9, 0, 1, 2, 3, 4, 5, 6, 7, 8, 9, 10], [10])])
def towropelaw06_IpBack.B11 : List Nat := [0, 1, 0, 0, 8, 28, 60, 127, 255, 511, 1023, 2047]
theorem towropelaw06_IpBack.tab11 : rtab .any (opsOf Try.f11 11) = towropelaw06_IpBack.T11 := by kernel_rfl
theorem towropelaw06_IpBack.bits11 : waitsOk towropelaw06_IpBack.T11.2 towropelaw06_IpBack.B11 = true := by kernel_rfl
set_option maxHeartbeats 8000000 in
set_option maxRecDepth 100000 in
theorem towropelaw06_IpBack.calls (k : Nat) (A0 : Option Addr) (c0 : Nat) (l0 : List Int) (r : Bool) (hrt : r = true) (w : World) (hr0 : Kd.C (Kd.int .u8) w A0 l0.length l0) (hc0 : l0.length ≤ c0) (h : towropelaw06_IpBack.f k l0 = some r) :
  Calls Try.prog 11 #[.slice A0 l0.length c0] w fun e w' => e = .returned (.bool r) ∧ Below w.heap.size w w' := by
 have HRT := Aside0.mk hrt
 clear hrt
 have hu37 := Try.underlying37
 have HR0 := Aside0.mk hr0
 have HC0 := Aside0.mk hc0
 clear hr0 hc0
 have HB := Aside0.mk (Below.refl w.heap.size w)
 have H : (if (l0.length : Int) > 70000 then ((towropelaw06_live.f k).bind fun t221 => (some t221)) else ((ip_Get.f k l0).bind fun bt222 => ((towropelaw06_code.f bt222.2.2.2.2.2.2.2.2.2.2.2).bind fun t239 => (if t239 = 0 then ((ip_Put.f k bt222.1 bt222.2.1 bt222.2.2.1 bt222.2.2.2.1 bt222.2.2.2.2.1 bt222.2.2.2.2.2.1 bt222.2.2.2.2.2.2.1 bt222.2.2.2.2.2.2.2.1 bt222.2.2.2.2.2.2.2.2.1 bt222.2.2.2.2.2.2.2.2.2.1 bt222.2.2.2.2.2.2.2.2.2.2.1).bind fun bt241 => ((towropelaw06_code.f bt241.2).bind fun t245 => (if t245 = 0 then (if (bt241.1.length : Int) > (l0.length : Int) then (towropelaw06_IpBack.j0 k l0 bt241.1 true) else (towropelaw06_IpBack.j0 k l0 bt241.1 (decide ((bt241.1.length : Int) < 20)))) else (towropelaw06_IpBack.j0 k l0 bt241.1 true)))) else ((towropelaw06_live.f k).bind fun t240 => (some t240)))))) = some r := h
 clear h
 by_cases c2 : (l0.length : Int) > 70000
 ·
  rw [if_pos c2] at H
  have c2b0 : decide (70000 < (l0.length : Int)) = true := decide_eq_true c2
  have c2b1 : decide (70000 < l0.length) = true := decide_eq_true (by omega)
  clear c2
  replace H := Option.bind_eq_some_iff.mp H
  obtain ⟨t221, A30, H⟩ := H
  replace H : (some t221) = some r := H
  have A3 := Aside0.mk A30
  clear A30
  obtain rfl := Option.some.inj H
  go_enter Try.func11, Try.ntmps11
  go_wp2_with (first | ((with_reducible refine gate_callee (f := 22) rfl ?_); refine goesL_ (some 10) rfl rfl Try.func22 (by kernel_rfl) rfl #[] rfl (by (try simp only [List.map_toArray, List.map_cons, List.map_nil]); first | done | rfl | (simp only [List.length_drop, List.length_take]; rfl) | (go_simp; done) | (go_simp; omega)) ?_; (with_reducible refine (towropelaw06_live.calls k  t221 _ A3.out).mono ?_); rintro e w4 ⟨rfl, hb⟩; refine ⟨_, rfl, ?_⟩; have n0_ := Aside0.mk (below_step (by repeat (first | (with_reducible first | exact HB.out | apply below_alloc | apply pw_below_drewN | apply below_drew1) | exact HB.out)) hb); clear HB; have HB := n0_; clear n0_; (try clear hb); (try clear hb2); (try clear hk); (try clear hi)))
  go_ret
  exact ⟨by first | rfl | (simp [errW_none, errW_some] <;> rfl) | (simp [*, errW_none, errW_some] <;> rfl), by repeat (first | (with_reducible first | exact HB.out | apply below_alloc | apply pw_below_drewN | apply below_drew1) | exact HB.out)⟩
 ·
  rw [if_neg c2] at H
  have c2b0 : decide (70000 < (l0.length : Int)) = false := decide_eq_false c2
  have c2b1 : decide (70000 < l0.length) = false := decide_eq_false (by omega)
  clear c2
  replace H := Option.bind_eq_some_iff.mp H
  obtain ⟨⟨t222, t223, t224, t225, t226, t227, t228, t229, t230, t231, t234, t237⟩, A50, H⟩ := H
  replace H : ((towropelaw06_code.f t237).bind fun t239 => (if t239 = 0 then ((ip_Put.f k t222 t223 t224 t225 t226 t227 t228 t229 t230 t231 t234).bind fun bt241 => ((towropelaw06_code.f bt241.2).bind fun t245 => (if t245 = 0 then (if (bt241.1.length : Int) > (l0.length : Int) then (towropelaw06_IpBack.j0 k l0 bt241.1 true) else (towropelaw06_IpBack.j0 k l0 bt241.1 (decide ((bt241.1.length : Int) < 20)))) else (towropelaw06_IpBack.j0 k l0 bt241.1 true)))) else ((towropelaw06_live.f k).bind fun t240 => (some t240)))) = some r := H
  have A5 := Aside0.mk A50
  clear A50
  replace H := Option.bind_eq_some_iff.mp H
  obtain ⟨t239, A60, H⟩ := H
  replace H : (if t239 = 0 then ((ip_Put.f k t222 t223 t224 t225 t226 t227 t228 t229 t230 t231 t234).bind fun bt241 => ((towropelaw06_code.f bt241.2).bind fun t245 => (if t245 = 0 then (if (bt241.1.length : Int) > (l0.length : Int) then (towropelaw06_IpBack.j0 k l0 bt241.1 true) else (towropelaw06_IpBack.j0 k l0 bt241.1 (decide ((bt241.1.length : Int) < 20)))) else (towropelaw06_IpBack.j0 k l0 bt241.1 true)))) else ((towropelaw06_live.f k).bind fun t240 => (some t240))) = some r := H
  have A6 := Aside0.mk A60
  clear A60
  by_cases c7 : t239 = 0
  ·
   rw [if_pos c7] at H
   have c7b0 : (t239 == 0) = true := beq_iff_eq.mpr c7
   have c7b1 : (t239 != 0) = false := bne_eq_false_iff_eq.mpr c7
   clear c7
   replace H := Option.bind_eq_some_iff.mp H
   obtain ⟨⟨t241, t244⟩, A80, H⟩ := H
   replace H : ((towropelaw06_code.f t244).bind fun t245 => (if t245 = 0 then (if (t241.length : Int) > (l0.length : Int) then (towropelaw06_IpBack.j0 k l0 t241 true) else (towropelaw06_IpBack.j0 k l0 t241 (decide ((t241.length : Int) < 20)))) else (towropelaw06_IpBack.j0 k l0 t241 true))) = some r := H
   have A8 := Aside0.mk A80
   clear A80
   have HC9 := Aside0.mk H
   clear H
   go_enter Try.func11, Try.ntmps11
   go_upto_region 7 with (first | ((with_reducible refine gate_callee (f := 36) rfl ?_); refine goesL_ (some 13) rfl rfl Try.func36 (by kernel_rfl) rfl #[.slice A0 l0.length c0] rfl (by (try simp only [List.map_toArray, List.map_cons, List.map_nil]); first | done | rfl | (simp only [List.length_drop, List.length_take]; rfl) | (go_simp; done) | (go_simp; omega)) ?_; (with_reducible refine (ip_Get.calls k _ _ l0 t222 t223 t224 t225 t226 t227 t228 t229 t230 t231 t234 t237 _ ?side1 ?side2 A5.out).mono ?_); (case side1 => repeat (first | exact HR0.out | (with_reducible refine Kd.C_alloc ?_ _) | (with_reducible refine Kd.C_drewN ?_ _) | (with_reducible refine Kd.C_drew ?_))); (case side2 => exact HC0.out); rintro e w10 ⟨v232, v235, rfl, ho0, ho1, hb⟩; refine ⟨_, rfl, ?_⟩; have n0_ := Aside0.mk (Kd.R_lower ho0 (below_size (by repeat (first | (with_reducible first | exact HB.out | apply below_alloc | apply pw_below_drewN | apply below_drew1) | exact HB.out)))); have n1_ := Aside0.mk (Kd.R_lower ho1 (below_size (by repeat (first | (with_reducible first | exact HB.out | apply below_alloc | apply pw_below_drewN | apply below_drew1) | exact HB.out)))); have n2_ := Aside0.mk (below_step (by repeat (first | (with_reducible first | exact HB.out | apply below_alloc | apply pw_below_drewN | apply below_drew1) | exact HB.out)) hb); clear HB; have HO233 := n0_; have HO236 := n1_; have HB := n2_; clear n0_ n1_ n2_; (try clear hb); (try clear hb2); (try clear hk); (try clear hi); (try clear ho0); (try clear ho1)) | ((with_reducible refine gate_dst (N := 3) rfl ?_); (try (refine gate_guard (by rfl) ?_; dsimp only)); refine box_event ?hg (N := 3) ?hd (cs := #[.int .u8 0, .int .u16 0, .bool false, .bool false, .int .i64 0, .int .u8 0, .int .u8 0, .int .u32 0, .int .u32 0, .slice none 0 0, .slice none 0 0]) (t := 37) ?hr ?_; (case hd => rfl); (case hg => rfl); (case hr => first | (go_simp; done) | (go_simp; rfl)); intro gb238 hg w11 hbox hb; have n0_ := Aside0.mk (Kd.R_below (by (with_reducible repeat (first | apply Kd.R_alloc | apply Kd.R_drewN | apply Kd.R_drew)); exact HO233.out) hb); have n1_ := Aside0.mk (Kd.R_below (by (with_reducible repeat (first | apply Kd.R_alloc | apply Kd.R_drewN | apply Kd.R_drew)); exact HO236.out) hb); have n2_ := Aside0.mk (below_step (by repeat (first | (with_reducible first | exact HB.out | apply below_alloc | apply pw_below_drewN | apply below_drew1) | exact HB.out)) hb); have n3_ := Aside0.mk (hbox); have n4_ := Aside0.mk ((by rw [hg]; exact (below_size (by repeat (first | (with_reducible first | exact HB.out | apply below_alloc | apply pw_below_drewN | apply below_drew1) | exact HB.out))) : w.heap.size ≤ gb238)); have n5_ := Aside0.mk ((by rw [hg]; exact (below_size (by repeat (first | (with_reducible first | exact HB.out | apply below_alloc | apply pw_below_drewN | apply below_drew1) | exact HB.out))) : w.heap.size ≤ gb238)); clear HO233; clear HO236; clear HB; have HO233 := n0_; have HO236 := n1_; have HB := n2_; have BK238 := n3_; have GW238 := n4_; have GE238 := n5_; clear n0_ n1_ n2_ n3_ n4_ n5_; clear hb hbox hg; have hcz12_0 : w11.cell? ⟨gb238, 0, none⟩ = some (.int .u8 0) := (blk_cell BK238.out 0).trans rfl; have hcz12_1 : w11.cell? ⟨gb238, 1, none⟩ = some (.int .u16 0) := (blk_cell BK238.out 1).trans rfl; have hcz12_2 : w11.cell? ⟨gb238, 2, none⟩ = some (.bool false) := (blk_cell BK238.out 2).trans rfl; have hcz12_3 : w11.cell? ⟨gb238, 3, none⟩ = some (.bool false) := (blk_cell BK238.out 3).trans rfl; have hcz12_4 : w11.cell? ⟨gb238, 4, none⟩ = some (.int .i64 0) := (blk_cell BK238.out 4).trans rfl; have hcz12_5 : w11.cell? ⟨gb238, 5, none⟩ = some (.int .u8 0) := (blk_cell BK238.out 5).trans rfl; have hcz12_6 : w11.cell? ⟨gb238, 6, none⟩ = some (.int .u8 0) := (blk_cell BK238.out 6).trans rfl; have hcz12_7 : w11.cell? ⟨gb238, 7, none⟩ = some (.int .u32 0) := (blk_cell BK238.out 7).trans rfl; have hcz12_8 : w11.cell? ⟨gb238, 8, none⟩ = some (.int .u32 0) := (blk_cell BK238.out 8).trans rfl; have hcz12_9 : w11.cell? ⟨gb238, 9, none⟩ = some (.slice none 0 0) := (blk_cell BK238.out 9).trans rfl; have hcz12_10 : w11.cell? ⟨gb238, 10, none⟩ = some (.slice none 0 0) := (blk_cell BK238.out 10).trans rfl; have hfz12_0 := blk_frozen BK238.out 0; have hfz12_1 := blk_frozen BK238.out 1; have hfz12_2 := blk_frozen BK238.out 2; have hfz12_3 := blk_frozen BK238.out 3; have hfz12_4 := blk_frozen BK238.out 4; have hfz12_5 := blk_frozen BK238.out 5; have hfz12_6 := blk_frozen BK238.out 6; have hfz12_7 := blk_frozen BK238.out 7; have hfz12_8 := blk_frozen BK238.out 8; have hfz12_9 := blk_frozen BK238.out 9; have hfz12_10 := blk_frozen BK238.out 10; (try (obtain ⟨Ao13, co13, eo13⟩ := Kd.R_slice HO233.out; subst eo13)); (try (obtain ⟨Ao14, co14, eo14⟩ := Kd.R_slice HO236.out; subst eo14))) | ((with_reducible refine gate_callee (f := 38) rfl ?_); refine goesL_ (some 17) rfl rfl Try.func38 (by kernel_rfl) rfl #[.int .i64 t237] rfl (by (try simp only [List.map_toArray, List.map_cons, List.map_nil]); first | done | rfl | (simp only [List.length_drop, List.length_take]; rfl) | (go_simp; done) | (go_simp; omega)) ?_; (with_reducible refine (towropelaw06_code.calls t237 t239 _ A6.out).mono ?_); rintro e w' ⟨rfl, ⟨nd, rfl⟩⟩; refine ⟨_, rfl, ?_⟩) | ((with_reducible refine gate_callee (f := 39) rfl ?_); refine goesL_ (some 22) rfl rfl Try.func39 (by kernel_rfl) rfl #[.agg #[.int .u8 t222, .int .u16 t223, .bool t224, .bool t225, .int .i64 t226, .int .u8 t227, .int .u8 t228, .int .u32 t229, .int .u32 t230, .slice Ao13 t231.length co13, .slice Ao14 t234.length co14]] rfl (by (try simp only [List.map_toArray, List.map_cons, List.map_nil]); first | done | rfl | (simp only [List.length_drop, List.length_take]; rfl) | (go_simp; done) | (go_simp; omega)) ?_; (with_reducible refine (ip_Put.calls k t222 t223 t224 t225 t226 t227 t228 t229 t230 _ _ t231 _ _ t234 t241 t244 _ ?side1 ?side2 ?side3 ?side4 A8.out).mono ?_); (case side1 => refine (Kd.R_reads' (e := 5) (base := w.heap.size) (ok := fun k_ => some k_ ≠ (.slice Ao14 t234.length co14 : Value).ownBlock) (n := t231.length) (c := co13) ?_).2.2; exact (by (with_reducible repeat (first | apply Kd.R_alloc | apply Kd.R_drewN | apply Kd.R_drew)); exact (Kd.R_mono (Kd.R_far (p := ⟨gb238, 10, none⟩) (Kd.R_far (p := ⟨gb238, 9, none⟩) (Kd.R_far (p := ⟨gb238, 8, none⟩) (Kd.R_far (p := ⟨gb238, 7, none⟩) (Kd.R_far (p := ⟨gb238, 6, none⟩) (Kd.R_far (p := ⟨gb238, 5, none⟩) (Kd.R_far (p := ⟨gb238, 4, none⟩) (Kd.R_far (p := ⟨gb238, 3, none⟩) (Kd.R_far (p := ⟨gb238, 2, none⟩) (Kd.R_far (p := ⟨gb238, 1, none⟩) (Kd.R_far (p := ⟨gb238, 0, none⟩) (Kd.R_types HO233.out BK238.out (by decide)) (fun _ hk => hk.2) (.int .u8 t222)) (fun _ hk => hk.2) (.int .u16 t223)) (fun _ hk => hk.2) (.bool t224)) (fun _ hk => hk.2) (.bool t225)) (fun _ hk => hk.2) (.int .i64 t226)) (fun _ hk => hk.2) (.int .u8 t227)) (fun _ hk => hk.2) (.int .u8 t228)) (fun _ hk => hk.2) (.int .u32 t229)) (fun _ hk => hk.2) (.int .u32 t230)) (fun _ hk => hk.2) (.slice Ao13 t231.length co13)) (fun _ hk => hk.2) (.slice Ao14 t234.length co14)) (fun _ h_ => h_.1)))); (case side2 => exact (Kd.R_reads' HO233.out).2.1); (case side3 => refine (Kd.R_reads' (e := 5) (base := w.heap.size) (ok := fun k_ => some k_ ≠ (.slice Ao13 t231.length co13 : Value).ownBlock) (n := t234.length) (c := co14) ?_).2.2; exact (by (with_reducible repeat (first | apply Kd.R_alloc | apply Kd.R_drewN | apply Kd.R_drew)); exact (Kd.R_mono (Kd.R_far (p := ⟨gb238, 10, none⟩) (Kd.R_far (p := ⟨gb238, 9, none⟩) (Kd.R_far (p := ⟨gb238, 8, none⟩) (Kd.R_far (p := ⟨gb238, 7, none⟩) (Kd.R_far (p := ⟨gb238, 6, none⟩) (Kd.R_far (p := ⟨gb238, 5, none⟩) (Kd.R_far (p := ⟨gb238, 4, none⟩) (Kd.R_far (p := ⟨gb238, 3, none⟩) (Kd.R_far (p := ⟨gb238, 2, none⟩) (Kd.R_far (p := ⟨gb238, 1, none⟩) (Kd.R_far (p := ⟨gb238, 0, none⟩) (Kd.R_types HO236.out BK238.out (by decide)) (fun _ hk => hk.2) (.int .u8 t222)) (fun _ hk => hk.2) (.int .u16 t223)) (fun _ hk => hk.2) (.bool t224)) (fun _ hk => hk.2) (.bool t225)) (fun _ hk => hk.2) (.int .i64 t226)) (fun _ hk => hk.2) (.int .u8 t227)) (fun _ hk => hk.2) (.int .u8 t228)) (fun _ hk => hk.2) (.int .u32 t229)) (fun _ hk => hk.2) (.int .u32 t230)) (fun _ hk => hk.2) (.slice Ao13 t231.length co13)) (fun _ hk => hk.2) (.slice Ao14 t234.length co14)) (fun _ h_ => h_.1)))); (case side4 => exact (Kd.R_reads' HO236.out).2.1); rintro e w15 ⟨v242, rfl, ho0, hb⟩; refine ⟨_, rfl, ?_⟩; have n0_ := Aside0.mk (Kd.R_elder' (by (with_reducible repeat (first | apply Kd.R_alloc | apply Kd.R_drewN | apply Kd.R_drew)); exact (Kd.R_mono (Kd.R_far (p := ⟨gb238, 10, none⟩) (Kd.R_far (p := ⟨gb238, 9, none⟩) (Kd.R_far (p := ⟨gb238, 8, none⟩) (Kd.R_far (p := ⟨gb238, 7, none⟩) (Kd.R_far (p := ⟨gb238, 6, none⟩) (Kd.R_far (p := ⟨gb238, 5, none⟩) (Kd.R_far (p := ⟨gb238, 4, none⟩) (Kd.R_far (p := ⟨gb238, 3, none⟩) (Kd.R_far (p := ⟨gb238, 2, none⟩) (Kd.R_far (p := ⟨gb238, 1, none⟩) (Kd.R_far (p := ⟨gb238, 0, none⟩) (Kd.R_types HO233.out BK238.out (by decide)) (fun _ hk => hk.2) (.int .u8 t222)) (fun _ hk => hk.2) (.int .u16 t223)) (fun _ hk => hk.2) (.bool t224)) (fun _ hk => hk.2) (.bool t225)) (fun _ hk => hk.2) (.int .i64 t226)) (fun _ hk => hk.2) (.int .u8 t227)) (fun _ hk => hk.2) (.int .u8 t228)) (fun _ hk => hk.2) (.int .u32 t229)) (fun _ hk => hk.2) (.int .u32 t230)) (fun _ hk => hk.2) (.slice Ao13 t231.length co13)) (fun _ hk => hk.2) (.slice Ao14 t234.length co14)) (fun _ h_ => h_.1))) (Kd.R_base ho0) hb); have n1_ := Aside0.mk (Kd.R_elder' (by (with_reducible repeat (first | apply Kd.R_alloc | apply Kd.R_drewN | apply Kd.R_drew)); exact (Kd.R_mono (Kd.R_far (p := ⟨gb238, 10, none⟩) (Kd.R_far (p := ⟨gb238, 9, none⟩) (Kd.R_far (p := ⟨gb238, 8, none⟩) (Kd.R_far (p := ⟨gb238, 7, none⟩) (Kd.R_far (p := ⟨gb238, 6, none⟩) (Kd.R_far (p := ⟨gb238, 5, none⟩) (Kd.R_far (p := ⟨gb238, 4, none⟩) (Kd.R_far (p := ⟨gb238, 3, none⟩) (Kd.R_far (p := ⟨gb238, 2, none⟩) (Kd.R_far (p := ⟨gb238, 1, none⟩) (Kd.R_far (p := ⟨gb238, 0, none⟩) (Kd.R_types HO236.out BK238.out (by decide)) (fun _ hk => hk.2) (.int .u8 t222)) (fun _ hk => hk.2) (.int .u16 t223)) (fun _ hk => hk.2) (.bool t224)) (fun _ hk => hk.2) (.bool t225)) (fun _ hk => hk.2) (.int .i64 t226)) (fun _ hk => hk.2) (.int .u8 t227)) (fun _ hk => hk.2) (.int .u8 t228)) (fun _ hk => hk.2) (.int .u32 t229)) (fun _ hk => hk.2) (.int .u32 t230)) (fun _ hk => hk.2) (.slice Ao13 t231.length co13)) (fun _ hk => hk.2) (.slice Ao14 t234.length co14)) (fun _ h_ => h_.1))) (Kd.R_base ho0) hb); have n2_ := Aside0.mk (Kd.R_lower (Kd.R_new' (Kd.R_new' ho0 (Kd.R_lt (by (with_reducible repeat (first | apply Kd.R_alloc | apply Kd.R_drewN | apply Kd.R_drew)); exact (Kd.R_mono (Kd.R_far (p := ⟨gb238, 10, none⟩) (Kd.R_far (p := ⟨gb238, 9, none⟩) (Kd.R_far (p := ⟨gb238, 8, none⟩) (Kd.R_far (p := ⟨gb238, 7, none⟩) (Kd.R_far (p := ⟨gb238, 6, none⟩) (Kd.R_far (p := ⟨gb238, 5, none⟩) (Kd.R_far (p := ⟨gb238, 4, none⟩) (Kd.R_far (p := ⟨gb238, 3, none⟩) (Kd.R_far (p := ⟨gb238, 2, none⟩) (Kd.R_far (p := ⟨gb238, 1, none⟩) (Kd.R_far (p := ⟨gb238, 0, none⟩) (Kd.R_types HO233.out BK238.out (by decide)) (fun _ hk => hk.2) (.int .u8 t222)) (fun _ hk => hk.2) (.int .u16 t223)) (fun _ hk => hk.2) (.bool t224)) (fun _ hk => hk.2) (.bool t225)) (fun _ hk => hk.2) (.int .i64 t226)) (fun _ hk => hk.2) (.int .u8 t227)) (fun _ hk => hk.2) (.int .u8 t228)) (fun _ hk => hk.2) (.int .u32 t229)) (fun _ hk => hk.2) (.int .u32 t230)) (fun _ hk => hk.2) (.slice Ao13 t231.length co13)) (fun _ hk => hk.2) (.slice Ao14 t234.length co14)) (fun _ h_ => h_.1))))) (Kd.R_lt (by (with_reducible repeat (first | apply Kd.R_alloc | apply Kd.R_drewN | apply Kd.R_drew)); exact (Kd.R_mono (Kd.R_far (p := ⟨gb238, 10, none⟩) (Kd.R_far (p := ⟨gb238, 9, none⟩) (Kd.R_far (p := ⟨gb238, 8, none⟩) (Kd.R_far (p := ⟨gb238, 7, none⟩) (Kd.R_far (p := ⟨gb238, 6, none⟩) (Kd.R_far (p := ⟨gb238, 5, none⟩) (Kd.R_far (p := ⟨gb238, 4, none⟩) (Kd.R_far (p := ⟨gb238, 3, none⟩) (Kd.R_far (p := ⟨gb238, 2, none⟩) (Kd.R_far (p := ⟨gb238, 1, none⟩) (Kd.R_far (p := ⟨gb238, 0, none⟩) (Kd.R_types HO236.out BK238.out (by decide)) (fun _ hk => hk.2) (.int .u8 t222)) (fun _ hk => hk.2) (.int .u16 t223)) (fun _ hk => hk.2) (.bool t224)) (fun _ hk => hk.2) (.bool t225)) (fun _ hk => hk.2) (.int .i64 t226)) (fun _ hk => hk.2) (.int .u8 t227)) (fun _ hk => hk.2) (.int .u8 t228)) (fun _ hk => hk.2) (.int .u32 t229)) (fun _ hk => hk.2) (.int .u32 t230)) (fun _ hk => hk.2) (.slice Ao13 t231.length co13)) (fun _ hk => hk.2) (.slice Ao14 t234.length co14)) (fun _ h_ => h_.1))))) (below_size (by repeat (first | (with_reducible first | exact HB.out | apply below_alloc | apply pw_below_drewN | apply below_drew1 | refine below_set ?_ GE238.out) | exact HB.out)))); have n3_ := Aside0.mk (blk_below (g := gb238) (o := .cells #[.int .u8 t222, .int .u16 t223, .bool t224, .bool t225, .int .i64 t226, .int .u8 t227, .int .u8 t228, .int .u32 t229, .int .u32 t230, .slice Ao13 t231.length co13, .slice Ao14 t234.length co14] 37 (0, 0)) (by (with_reducible repeat (first | refine blk_drewN ?_ _ | refine blk_drew ?_ | refine blk_alloc ?_ _)); refine blk_put (cs := #[.int .u8 t222, .int .u16 t223, .bool t224, .bool t225, .int .i64 t226, .int .u8 t227, .int .u8 t228, .int .u32 t229, .int .u32 t230, .slice Ao13 t231.length co13, .slice none 0 0]) ?_ 10 _ rfl; (with_reducible repeat (first | refine blk_drewN ?_ _ | refine blk_drew ?_ | refine blk_alloc ?_ _)); refine blk_put (cs := #[.int .u8 t222, .int .u16 t223, .bool t224, .bool t225, .int .i64 t226, .int .u8 t227, .int .u8 t228, .int .u32 t229, .int .u32 t230, .slice none 0 0, .slice none 0 0]) ?_ 9 _ rfl; (with_reducible repeat (first | refine blk_drewN ?_ _ | refine blk_drew ?_ | refine blk_alloc ?_ _)); refine blk_put (cs := #[.int .u8 t222, .int .u16 t223, .bool t224, .bool t225, .int .i64 t226, .int .u8 t227, .int .u8 t228, .int .u32 t229, .int .u32 0, .slice none 0 0, .slice none 0 0]) ?_ 8 _ rfl; (with_reducible repeat (first | refine blk_drewN ?_ _ | refine blk_drew ?_ | refine blk_alloc ?_ _)); refine blk_put (cs := #[.int .u8 t222, .int .u16 t223, .bool t224, .bool t225, .int .i64 t226, .int .u8 t227, .int .u8 t228, .int .u32 0, .int .u32 0, .slice none 0 0, .slice none 0 0]) ?_ 7 _ rfl; (with_reducible repeat (first | refine blk_drewN ?_ _ | refine blk_drew ?_ | refine blk_alloc ?_ _)); refine blk_put (cs := #[.int .u8 t222, .int .u16 t223, .bool t224, .bool t225, .int .i64 t226, .int .u8 t227, .int .u8 0, .int .u32 0, .int .u32 0, .slice none 0 0, .slice none 0 0]) ?_ 6 _ rfl; (with_reducible repeat (first | refine blk_drewN ?_ _ | refine blk_drew ?_ | refine blk_alloc ?_ _)); refine blk_put (cs := #[.int .u8 t222, .int .u16 t223, .bool t224, .bool t225, .int .i64 t226, .int .u8 0, .int .u8 0, .int .u32 0, .int .u32 0, .slice none 0 0, .slice none 0 0]) ?_ 5 _ rfl; (with_reducible repeat (first | refine blk_drewN ?_ _ | refine blk_drew ?_ | refine blk_alloc ?_ _)); refine blk_put (cs := #[.int .u8 t222, .int .u16 t223, .bool t224, .bool t225, .int .i64 0, .int .u8 0, .int .u8 0, .int .u32 0, .int .u32 0, .slice none 0 0, .slice none 0 0]) ?_ 4 _ rfl; (with_reducible repeat (first | refine blk_drewN ?_ _ | refine blk_drew ?_ | refine blk_alloc ?_ _)); refine blk_put (cs := #[.int .u8 t222, .int .u16 t223, .bool t224, .bool false, .int .i64 0, .int .u8 0, .int .u8 0, .int .u32 0, .int .u32 0, .slice none 0 0, .slice none 0 0]) ?_ 3 _ rfl; (with_reducible repeat (first | refine blk_drewN ?_ _ | refine blk_drew ?_ | refine blk_alloc ?_ _)); refine blk_put (cs := #[.int .u8 t222, .int .u16 t223, .bool false, .bool false, .int .i64 0, .int .u8 0, .int .u8 0, .int .u32 0, .int .u32 0, .slice none 0 0, .slice none 0 0]) ?_ 2 _ rfl; (with_reducible repeat (first | refine blk_drewN ?_ _ | refine blk_drew ?_ | refine blk_alloc ?_ _)); refine blk_put (cs := #[.int .u8 t222, .int .u16 0, .bool false, .bool false, .int .i64 0, .int .u8 0, .int .u8 0, .int .u32 0, .int .u32 0, .slice none 0 0, .slice none 0 0]) ?_ 1 _ rfl; (with_reducible repeat (first | refine blk_drewN ?_ _ | refine blk_drew ?_ | refine blk_alloc ?_ _)); refine blk_put (cs := #[.int .u8 0, .int .u16 0, .bool false, .bool false, .int .i64 0, .int .u8 0, .int .u8 0, .int .u32 0, .int .u32 0, .slice none 0 0, .slice none 0 0]) ?_ 0 _ rfl; (with_reducible repeat (first | refine blk_drewN ?_ _ | refine blk_drew ?_ | refine blk_alloc ?_ _)); exact BK238.out) hb); have n4_ := Aside0.mk (below_step (by repeat (first | (with_reducible first | exact HB.out | apply below_alloc | apply pw_below_drewN | apply below_drew1 | refine below_set ?_ GE238.out) | exact HB.out)) hb); clear HO233; clear HO236; clear BK238; clear HB; have HO233 := n0_; have HO236 := n1_; have HO243 := n2_; have BK238 := n3_; have HB := n4_; clear n0_ n1_ n2_ n3_ n4_; (try clear hb); (try clear hb2); (try clear hk); (try clear hi); (try clear ho0)))
   (try simp only [Act.put, List.setIfInBounds_toArray, List.set_cons_zero, List.set_cons_succ])
   go_cut [39] (fun v39 wc => ∃ (kq : Nat) (x39_8 : Bool), v39 = .bool x39_8 ∧ Aside0 (towropelaw06_IpBack.j0 kq l0 t241 x39_8 = some r) ∧ Aside0 (kq ≤ k) ∧ Aside0 (Kd.R (Kd.int .u8) 5 wc w.heap.size (fun k_ => some k_ ≠ ((.slice Ao13 t231.length co13) : Value).ownBlock ∧ some k_ ≠ ((.slice Ao14 t234.length co14) : Value).ownBlock) v242 t241) ∧ Aside0 (Kd.R (Kd.int .u8) 5 wc w.heap.size (fun k_ => some k_ ≠ (v242 : Value).ownBlock ∧ some k_ ≠ ((.slice Ao14 t234.length co14) : Value).ownBlock) (.slice Ao13 t231.length co13) t231) ∧ Aside0 (Kd.R (Kd.int .u8) 5 wc w.heap.size (fun k_ => some k_ ≠ (v242 : Value).ownBlock ∧ some k_ ≠ ((.slice Ao13 t231.length co13) : Value).ownBlock) (.slice Ao14 t234.length co14) t234) ∧ Aside0 (wc.heap[gb238]? = some (.cells #[.int .u8 t222, .int .u16 t223, .bool t224, .bool t225, .int .i64 t226, .int .u8 t227, .int .u8 t228, .int .u32 t229, .int .u32 t230, (.slice Ao13 t231.length co13), (.slice Ao14 t234.length co14)] 37 (0, 0))) ∧ Aside0 (Below w.heap.size w wc))
   case first =>
    have H := HC9.out
    clear HC9
    replace H := Option.bind_eq_some_iff.mp H
    obtain ⟨t245, A160, H⟩ := H
    replace H : (if t245 = 0 then (if (t241.length : Int) > (l0.length : Int) then (towropelaw06_IpBack.j0 k l0 t241 true) else (towropelaw06_IpBack.j0 k l0 t241 (decide ((t241.length : Int) < 20)))) else (towropelaw06_IpBack.j0 k l0 t241 true)) = some r := H
    have A16 := Aside0.mk A160
    clear A160
    by_cases c17 : t245 = 0
    ·
     rw [if_pos c17] at H
     have c17b0 : (t245 == 0) = true := beq_iff_eq.mpr c17
     have c17b1 : (t245 != 0) = false := bne_eq_false_iff_eq.mpr c17
     clear c17
     (first | rw [c17b0] | (simp only [i64_w, i32_w]; rw [c17b0]) | skip)
     by_cases c18 : (t241.length : Int) > (l0.length : Int)
     ·
      rw [if_pos c18] at H
      have c18b0 : decide ((l0.length : Int) < (t241.length : Int)) = true := decide_eq_true c18
      have c18b1 : decide (l0.length < t241.length) = true := decide_eq_true (Int.ofNat_lt.mp c18)
      clear c18
      have H' := Aside0.mk H
      clear H
      go_wp2_with (first | ((with_reducible refine gate_callee (f := 38) rfl ?_); refine goesL_ (some 26) rfl rfl Try.func38 (by kernel_rfl) rfl #[.int .i64 t244] rfl (by (try simp only [List.map_toArray, List.map_cons, List.map_nil]); first | done | rfl | (simp only [List.length_drop, List.length_take]; rfl) | (go_simp; done) | (go_simp; omega)) ?_; (with_reducible refine (towropelaw06_code.calls t244 t245 _ A16.out).mono ?_); rintro e w' ⟨rfl, ⟨nd, rfl⟩⟩; refine ⟨_, rfl, ?_⟩; (try (obtain ⟨Ao19, co19, eo19⟩ := Kd.R_slice HO243.out; subst eo19))))
      go_meet
      case rel => exact ⟨_, (true), (by first | rfl | (simp; done) | (simp [*]; done)), H', ⟨by first | omega | exact Nat.le_refl _⟩, ⟨by (with_reducible repeat (first | apply Kd.R_alloc | apply Kd.R_drewN | apply Kd.R_drew)); exact Kd.R_mono HO243.out (fun _ hk => ⟨hk.1.2, hk.2⟩)⟩, ⟨by (with_reducible repeat (first | apply Kd.R_alloc | apply Kd.R_drewN | apply Kd.R_drew)); exact Kd.R_mono HO233.out (fun _ hk => ⟨hk.2, hk.1⟩)⟩, ⟨by (with_reducible repeat (first | apply Kd.R_alloc | apply Kd.R_drewN | apply Kd.R_drew)); exact Kd.R_mono HO236.out (fun _ hk => ⟨hk.2, hk.1⟩)⟩, ⟨by (with_reducible repeat (first | refine blk_drewN ?_ _ | refine blk_drew ?_ | refine blk_alloc ?_ _)); exact BK238.out⟩, ⟨by repeat (first | (with_reducible first | exact HB.out | apply below_alloc | apply pw_below_drewN | apply below_drew1 | refine below_set ?_ GE238.out) | exact HB.out)⟩⟩
     ·
      rw [if_neg c18] at H
      have c18b0 : decide ((l0.length : Int) < (t241.length : Int)) = false := decide_eq_false c18
      have c18b1 : decide (l0.length < t241.length) = false := decide_eq_false (fun h => c18 (Int.ofNat_lt.mpr h))
      clear c18
      have H' := Aside0.mk H
      clear H
      go_wp2_with (first | ((with_reducible refine gate_callee (f := 38) rfl ?_); refine goesL_ (some 26) rfl rfl Try.func38 (by kernel_rfl) rfl #[.int .i64 t244] rfl (by (try simp only [List.map_toArray, List.map_cons, List.map_nil]); first | done | rfl | (simp only [List.length_drop, List.length_take]; rfl) | (go_simp; done) | (go_simp; omega)) ?_; (with_reducible refine (towropelaw06_code.calls t244 t245 _ A16.out).mono ?_); rintro e w' ⟨rfl, ⟨nd, rfl⟩⟩; refine ⟨_, rfl, ?_⟩; (try (obtain ⟨Ao20, co20, eo20⟩ := Kd.R_slice HO243.out; subst eo20))))
      go_meet
      case rel => exact ⟨_, (decide ((t241.length : Int) < 20)), (by first | rfl | (simp; done) | (simp [*]; done)), H', ⟨by first | omega | exact Nat.le_refl _⟩, ⟨by (with_reducible repeat (first | apply Kd.R_alloc | apply Kd.R_drewN | apply Kd.R_drew)); exact Kd.R_mono HO243.out (fun _ hk => ⟨hk.1.2, hk.2⟩)⟩, ⟨by (with_reducible repeat (first | apply Kd.R_alloc | apply Kd.R_drewN | apply Kd.R_drew)); exact Kd.R_mono HO233.out (fun _ hk => ⟨hk.2, hk.1⟩)⟩, ⟨by (with_reducible repeat (first | apply Kd.R_alloc | apply Kd.R_drewN | apply Kd.R_drew)); exact Kd.R_mono HO236.out (fun _ hk => ⟨hk.2, hk.1⟩)⟩, ⟨by (with_reducible repeat (first | refine blk_drewN ?_ _ | refine blk_drew ?_ | refine blk_alloc ?_ _)); exact BK238.out⟩, ⟨by repeat (first | (with_reducible first | exact HB.out | apply below_alloc | apply pw_below_drewN | apply below_drew1 | refine below_set ?_ GE238.out) | exact HB.out)⟩⟩
    ·
     rw [if_neg c17] at H
     have c17b0 : (t245 == 0) = false := beq_eq_false_iff_ne.mpr c17
     have c17b1 : (t245 != 0) = true := bne_iff_ne.mpr c17
     (first | rw [c17b0] | (simp only [i64_w, i32_w]; rw [c17b0]) | skip)
     have H' := Aside0.mk H
     clear H
     go_wp2_with (first | ((with_reducible refine gate_callee (f := 38) rfl ?_); refine goesL_ (some 26) rfl rfl Try.func38 (by kernel_rfl) rfl #[.int .i64 t244] rfl (by (try simp only [List.map_toArray, List.map_cons, List.map_nil]); first | done | rfl | (simp only [List.length_drop, List.length_take]; rfl) | (go_simp; done) | (go_simp; omega)) ?_; (with_reducible refine (towropelaw06_code.calls t244 t245 _ A16.out).mono ?_); rintro e w' ⟨rfl, ⟨nd, rfl⟩⟩; refine ⟨_, rfl, ?_⟩))
     go_meet
     case rel => exact ⟨_, (true), (by first | rfl | (simp; done) | (simp [*]; done)), H', ⟨by first | omega | exact Nat.le_refl _⟩, ⟨by (with_reducible repeat (first | apply Kd.R_alloc | apply Kd.R_drewN | apply Kd.R_drew)); exact Kd.R_mono HO243.out (fun _ hk => ⟨hk.1.2, hk.2⟩)⟩, ⟨by (with_reducible repeat (first | apply Kd.R_alloc | apply Kd.R_drewN | apply Kd.R_drew)); exact Kd.R_mono HO233.out (fun _ hk => ⟨hk.2, hk.1⟩)⟩, ⟨by (with_reducible repeat (first | apply Kd.R_alloc | apply Kd.R_drewN | apply Kd.R_drew)); exact Kd.R_mono HO236.out (fun _ hk => ⟨hk.2, hk.1⟩)⟩, ⟨by (with_reducible repeat (first | refine blk_drewN ?_ _ | refine blk_drew ?_ | refine blk_alloc ?_ _)); exact BK238.out⟩, ⟨by repeat (first | (with_reducible first | exact HB.out | apply below_alloc | apply pw_below_drewN | apply below_drew1 | refine below_set ?_ GE238.out) | exact HB.out)⟩⟩
   case rest =>
    clear HC9
    try clear c1
    try clear c2
    try clear c2b0
    try clear c2b1
    try clear p2
    try clear c3
    try clear c7
    try clear c7b0
    try clear c7b1
    try clear c11
    try clear c17
    try clear c17b0
    try clear c17b1
    try clear c18
    try clear c18b0
    try clear c18b1
    try clear hcz12_0
    try clear hcz12_1
    try clear hcz12_10
    try clear hcz12_2
    try clear hcz12_3
    try clear hcz12_4
    try clear hcz12_5
    try clear hcz12_6
    try clear hcz12_7
    try clear hcz12_8
    try clear hcz12_9
    try clear hfz12_0
    try clear hfz12_1
    try clear hfz12_10
    try clear hfz12_2
    try clear hfz12_3
    try clear hfz12_4
    try clear hfz12_5
    try clear hfz12_6
    try clear hfz12_7
    try clear hfz12_8
    try clear hfz12_9
    obtain ⟨kq, x39_8, rfl, HA, HJ8, HO_5, HO_239009, HO_239010, BK238, HB⟩ := hcut
    cases kq with
    | zero => exact absurd HA.out (by simp [towropelaw06_IpBack.j0])
    | succ kj8 =>
     have H := HA.out
     clear HA
     simp only [towropelaw06_IpBack.j0] at H
     by_cases c21 : x39_8 = true
     ·
      subst c21
      have H1 : (some false) = some r := by rw [if_pos rfl] at H; exact H
      clear H
      have H := H1
      clear H1
      exact absurd ((Option.some.inj H).trans HRT.out) (by decide)
     ·
      replace c21 := Bool.eq_false_iff.mpr c21
      subst c21
      have H1 : (if 10 < (l0.length : Int) then (if (rd l0 10) = 255 then (if 11 < (l0.length : Int) then (if (rd l0 11) = 255 then (if 10 < (t241.length : Int) then (if (rd t241 10) = 0 then (if 11 < (t241.length : Int) then (if (rd t241 11) = 0 then (if 0 ≤ (t241.length : Int) then (if (t241.length : Int) ≤ (l0.length : Int) then (if (strOfNums ((t241.set (10 : Int).toNat 255).set (11 : Int).toNat 255)).toList = (strOfNums (l0.take t241.length)).toList then ((towropelaw06_live.f kj8).bind fun t253 => (some t253)) else (some false)) else (none)) else (none)) else (if 0 ≤ (t241.length : Int) then (if (t241.length : Int) ≤ (l0.length : Int) then (if (strOfNums t241).toList = (strOfNums (l0.take t241.length)).toList then ((towropelaw06_live.f kj8).bind fun t255 => (some t255)) else (some false)) else (none)) else (none))) else (none)) else (if 0 ≤ (t241.length : Int) then (if (t241.length : Int) ≤ (l0.length : Int) then (if (strOfNums t241).toList = (strOfNums (l0.take t241.length)).toList then ((towropelaw06_live.f kj8).bind fun t257 => (some t257)) else (some false)) else (none)) else (none))) else (none)) else (if 0 ≤ (t241.length : Int) then (if (t241.length : Int) ≤ (l0.length : Int) then (if (strOfNums t241).toList = (strOfNums (l0.take t241.length)).toList then ((towropelaw06_live.f kj8).bind fun t259 => (some t259)) else (some false)) else (none)) else (none))) else (none)) else (if 0 ≤ (t241.length : Int) then (if (t241.length : Int) ≤ (l0.length : Int) then (if (strOfNums t241).toList = (strOfNums (l0.take t241.length)).toList then ((towropelaw06_live.f kj8).bind fun t261 => (some t261)) else (some false)) else (none)) else (none))) else (none)) = some r := by rw [if_neg (show ¬ (false = true) by decide)] at H; exact H
      clear H
      have H := H1
      clear H1
      by_cases c22 : 10 < (l0.length : Int)
      ·
       rw [if_pos c22] at H
       have c22b0 : decide (10 < (l0.length : Int)) = true := decide_eq_true c22
       have c22b1 : decide (10 < l0.length) = true := decide_eq_true (by omega)
       clear c22
       by_cases c23 : (rd l0 10) = 255
       ·
        rw [if_pos c23] at H
        have c23b0 : ((rd l0 10) == 255) = true := beq_iff_eq.mpr c23
        have c23b1 : ((rd l0 10) != 255) = false := bne_eq_false_iff_eq.mpr c23
        clear c23
        by_cases c24 : 11 < (l0.length : Int)
        ·
         rw [if_pos c24] at H
         have c24b0 : decide (11 < (l0.length : Int)) = true := decide_eq_true c24
         have c24b1 : decide (11 < l0.length) = true := decide_eq_true (by omega)
         clear c24
         by_cases c25 : (rd l0 11) = 255
         ·
          rw [if_pos c25] at H
          have c25b0 : ((rd l0 11) == 255) = true := beq_iff_eq.mpr c25
          have c25b1 : ((rd l0 11) != 255) = false := bne_eq_false_iff_eq.mpr c25
          clear c25
          by_cases c26 : 10 < (t241.length : Int)
          ·
           rw [if_pos c26] at H
           have c26b0 : decide (10 < (t241.length : Int)) = true := decide_eq_true c26
           have c26b1 : decide (10 < t241.length) = true := decide_eq_true (by omega)
           clear c26
           by_cases c27 : (rd t241 10) = 0
           ·
            rw [if_pos c27] at H
            have c27b0 : ((rd t241 10) == 0) = true := beq_iff_eq.mpr c27
            have c27b1 : ((rd t241 10) != 0) = false := bne_eq_false_iff_eq.mpr c27
            clear c27
            by_cases c28 : 11 < (t241.length : Int)
            ·
             rw [if_pos c28] at H
             have c28b0 : decide (11 < (t241.length : Int)) = true := decide_eq_true c28
             have c28b1 : decide (11 < t241.length) = true := decide_eq_true (by omega)
             clear c28
             by_cases c29 : (rd t241 11) = 0
             ·
              rw [if_pos c29] at H
              have c29b0 : ((rd t241 11) == 0) = true := beq_iff_eq.mpr c29
              have c29b1 : ((rd t241 11) != 0) = false := bne_eq_false_iff_eq.mpr c29
              clear c29
              obtain ⟨y250, hy250⟩ : ∃ y_ : List Int, y_ = (t241.set (10 : Int).toNat 255) := ⟨_, rfl⟩
              replace H : (if 0 ≤ (t241.length : Int) then (if (t241.length : Int) ≤ (l0.length : Int) then (if (strOfNums (y250.set (11 : Int).toNat 255)).toList = (strOfNums (l0.take t241.length)).toList then ((towropelaw06_live.f kj8).bind fun t253 => (some t253)) else (some false)) else (none)) else (none)) = some r := by first | (rw [hy250]; with_reducible exact H) | (have H2_ := (Option.bind_some _ _).symm.trans H; rw [hy250]; with_reducible exact H2_) | (have H2_ := (Option.bind_some _ _).symm.trans H; with_reducible exact H2_) | with_reducible exact H | (rw [hy250]; exact H) | exact H
              have Ny250 := Aside0.mk hy250
              clear hy250
              obtain ⟨y251, hy251⟩ : ∃ y_ : List Int, y_ = (y250.set (11 : Int).toNat 255) := ⟨_, rfl⟩
              replace H : (if 0 ≤ (t241.length : Int) then (if (t241.length : Int) ≤ (l0.length : Int) then (if (strOfNums y251).toList = (strOfNums (l0.take t241.length)).toList then ((towropelaw06_live.f kj8).bind fun t253 => (some t253)) else (some false)) else (none)) else (none)) = some r := by first | (rw [hy251]; with_reducible exact H) | (have H2_ := (Option.bind_some _ _).symm.trans H; rw [hy251]; with_reducible exact H2_) | (have H2_ := (Option.bind_some _ _).symm.trans H; with_reducible exact H2_) | with_reducible exact H | (rw [hy251]; exact H) | exact H
              have Ny251 := Aside0.mk hy251
              clear hy251
              by_cases c32 : 0 ≤ (t241.length : Int)
              ·
               rw [if_pos c32] at H
               have c32b0 := eq_true c32
               have c32b1 : decide (0 ≤ (t241.length : Int)) = true := decide_eq_true c32
               clear c32
               by_cases c33 : (t241.length : Int) ≤ (l0.length : Int)
               ·
                rw [if_pos c33] at H
                have c33b0 := eq_true c33
                have c33b1 : decide ((t241.length : Int) ≤ (l0.length : Int)) = true := decide_eq_true c33
                clear c33
                by_cases c34 : (strOfNums y251).toList = (strOfNums (l0.take t241.length)).toList
                ·
                 rw [if_pos c34] at H
                 have c34b0 : ((strOfNums y251).toList == (strOfNums (l0.take t241.length)).toList) = true := beq_iff_eq.mpr c34
                 have c34b1 : ((strOfNums y251).toList != (strOfNums (l0.take t241.length)).toList) = false := bne_eq_false_iff_eq.mpr c34
                 clear c34
                 replace H := Option.bind_eq_some_iff.mp H
                 obtain ⟨t253, A350, H⟩ := H
                 replace H : (some t253) = some r := H
                 have A35 := Aside0.mk A350
                 clear A350
                 obtain rfl := Option.some.inj H
                 have p246 : 0 ≤ (10 : Int) := (by omega)
                 have q246 : 10 < (l0.length : Int) := of_decide_eq_true (by first | (with_reducible assumption) | assumption)
                 obtain ⟨ad246, e246, hx246_0⟩ := Kd.at_int HR0.out 10 p246 q246
                 cases e246
                 (try simp only [show (10 : Int).toNat = 10 from rfl, Nat.reduceMul, Nat.reduceEqDiff, Go.Addr.add, ↓reduceIte] at hx246_0)
                 have qi246 : (10 < l0.length) = True := eq_true (by omega)
                 (try rw [show ((10 : Int)).toNat = 10 from rfl] at hx246_0)
                 replace hx246_0 := (HB.out.cell (World.block_lt_of_cell? w _ hx246_0)).trans hx246_0
                 replace p246 := eq_true p246
                 replace q246 := eq_true q246
                 have p247 : 0 ≤ (11 : Int) := (by omega)
                 have q247 : 11 < (l0.length : Int) := of_decide_eq_true (by first | (with_reducible assumption) | assumption)
                 obtain ⟨ad247, e247, hx247_0⟩ := Kd.at_int HR0.out 11 p247 q247
                 obtain rfl : ad246 = ad247 := (by injection e247)
                 (try simp only [show (11 : Int).toNat = 11 from rfl, Nat.reduceMul, Nat.reduceEqDiff, Go.Addr.add, ↓reduceIte] at hx247_0)
                 have qi247 : (11 < l0.length) = True := eq_true (by omega)
                 (try rw [show ((11 : Int)).toNat = 11 from rfl] at hx247_0)
                 replace hx247_0 := (HB.out.cell (World.block_lt_of_cell? w _ hx247_0)).trans hx247_0
                 replace p247 := eq_true p247
                 replace q247 := eq_true q247
                 obtain ⟨Ao36, co36, eo36⟩ := Kd.R_slice HO_5.out
                 subst eo36
                 have p248 : 0 ≤ (10 : Int) := (by omega)
                 have q248 : 10 < (t241.length : Int) := of_decide_eq_true (by first | (with_reducible assumption) | assumption)
                 obtain ⟨ad248, e248, hx248_0⟩ := Kd.at_int (Kd.R_reads' HO_5.out).2.2 10 p248 q248
                 cases e248
                 (try simp only [show (10 : Int).toNat = 10 from rfl, Nat.reduceMul, Nat.reduceEqDiff, Go.Addr.add, ↓reduceIte] at hx248_0)
                 have qi248 : (10 < t241.length) = True := eq_true (by omega)
                 (try rw [show ((10 : Int)).toNat = 10 from rfl] at hx248_0)
                 replace p248 := eq_true p248
                 replace q248 := eq_true q248
                 have p249 : 0 ≤ (11 : Int) := (by omega)
                 have q249 : 11 < (t241.length : Int) := of_decide_eq_true (by first | (with_reducible assumption) | assumption)
                 obtain ⟨ad249, e249, hx249_0⟩ := Kd.at_int (Kd.R_reads' HO_5.out).2.2 11 p249 q249
                 obtain rfl : ad248 = ad249 := (by injection e249)
                 (try simp only [show (11 : Int).toNat = 11 from rfl, Nat.reduceMul, Nat.reduceEqDiff, Go.Addr.add, ↓reduceIte] at hx249_0)
                 have qi249 : (11 < t241.length) = True := eq_true (by omega)
                 (try rw [show ((11 : Int)).toNat = 11 from rfl] at hx249_0)
                 replace p249 := eq_true p249
                 replace q249 := eq_true q249
                 have p30 : 0 ≤ (10 : Int) := (by omega)
                 have q30 : (10 : Int) < ((t241.length : Int) : Int) := of_decide_eq_true (by first | (with_reducible assumption) | assumption)
                 have qi30 : (10 < t241.length) = True := eq_true (by omega)
                 obtain ⟨go30, co30, eo30, gb30, gl30, cl30, HG30⟩ := Kd.R_form HO_5.out (by omega)
                 (first | cases eo30 | (injection eo30 with ea_ en_ ec_; (first | subst ea_ | (injection ea_ with ea_; subst ea_)); subst ec_; clear en_))
                 have GB30 := Aside0.mk gb30
                 have GG30 := Aside0.mk HG30
                 clear gb30 gl30 HG30
                 (first | simp only [add_plain] at hx248_0 | skip)
                 (first | simp only [add_plain] at hx249_0 | skip)
                 obtain ⟨hx30_0, hf30_0⟩ := Kd.R_celln 0 HO_5.out (10 : Int) p30 q30
                 (try rw [show ((10 : Int)).toNat = 10 from rfl] at hx30_0)
                 (try simp only [Nat.reduceMul, Nat.zero_mul, Nat.zero_add, Nat.reduceAdd] at hx30_0)
                 (try rw [show ((10 : Int)).toNat = 10 from rfl] at hf30_0)
                 (try simp only [Nat.reduceMul, Nat.zero_mul, Nat.zero_add, Nat.reduceAdd] at hf30_0)
                 replace p30 := eq_true p30
                 replace q30 := eq_true q30
                 have HP37 := Kd.R_putg HO_5.out (10 : Int) 255
                 try go_wp2_with (first | ((with_reducible refine gate_store (t := 5) (p := 64) rfl ?_); refine store_event (t := 5) (p := 64) (v := ?vo_w38) (w1 := (wc.setCell ⟨go30, (10 : Int).toNat, none⟩ (.int .u8 255))) ?hg ?ho ?hn ?hr ?_; (case ho => rfl); (case hg => rfl); (case hn => rfl); (case hr => first | (go_simp; done) | (go_simp; rfl)); intro w38 hw; have hg : wc.grownBy w38 (some go30) := (by rw [hw]; exact HP37.2); have hp_ : Kd.R (Kd.int .u8) 5 w38 w.heap.size (fun k_ => some k_ ≠ (.slice Ao13 t231.length co13 : Value).ownBlock ∧ some k_ ≠ (.slice Ao14 t234.length co14 : Value).ownBlock) (.slice (some ⟨go30, 0, none⟩) t241.length co36) y250 := (by rw [hw, Ny250.out]; exact HP37.1); clear HP37; have n0_ := Aside0.mk (hp_); have n1_ := Aside0.mk (Kd.R_after (v := (.slice (some ⟨go30, 0, none⟩) t241.length co36)) (v1 := (.slice (some ⟨go30, 0, none⟩) t241.length co36)) (ok := (fun k_ => some k_ ≠ (.slice Ao14 t234.length co14 : Value).ownBlock)) (by (with_reducible repeat (first | apply Kd.R_alloc | apply Kd.R_drewN | apply Kd.R_drew)); exact Kd.R_mono HO_239009.out (fun _ hk => ⟨hk.2, hk.1⟩)) hg (.inl rfl)); have n2_ := Aside0.mk (Kd.R_after (v := (.slice (some ⟨go30, 0, none⟩) t241.length co36)) (v1 := (.slice (some ⟨go30, 0, none⟩) t241.length co36)) (ok := (fun k_ => some k_ ≠ (.slice Ao13 t231.length co13 : Value).ownBlock)) (by (with_reducible repeat (first | apply Kd.R_alloc | apply Kd.R_drewN | apply Kd.R_drew)); exact Kd.R_mono HO_239010.out (fun _ hk => ⟨hk.2, hk.1⟩)) hg (.inl rfl)); have n3_ := Aside0.mk (blk_grown (g := gb238) (o := .cells #[.int .u8 t222, .int .u16 t223, .bool t224, .bool t225, .int .i64 t226, .int .u8 t227, .int .u8 t228, .int .u32 t229, .int .u32 t230, .slice Ao13 t231.length co13, .slice Ao14 t234.length co14] 37 (0, 0)) (by (with_reducible repeat (first | refine blk_drewN ?_ _ | refine blk_drew ?_ | refine blk_alloc ?_ _)); exact BK238.out) hg (Kd.R_ne HO_5.out BK238.out (by decide))); have n4_ := Aside0.mk ((by rw [hw]; exact below_set (HB.out) GB30.out : Below w.heap.size w w38)); clear HO_5; clear HO_239009; clear HO_239010; clear BK238; clear HB; have HO_5 := n0_; have HO_239009 := n1_; have HO_239010 := n2_; have BK238 := n3_; have HB := n4_; clear n0_ n1_ n2_ n3_ n4_; clear hg hw hp_; have p31 : 0 ≤ (11 : Int) := (by omega); have q31 : (11 : Int) < ((t241.length : Int) : Int) := of_decide_eq_true (by first | (with_reducible assumption) | assumption); have qi31 : (11 < t241.length) = True := eq_true (by omega); obtain ⟨hx31_0, hf31_0⟩ := Kd.R_celln 0 HO_5.out (11 : Int) p31 q31; (try rw [show ((11 : Int)).toNat = 11 from rfl] at hx31_0); (try simp only [Nat.reduceMul, Nat.zero_mul, Nat.zero_add, Nat.reduceAdd] at hx31_0); (try rw [show ((11 : Int)).toNat = 11 from rfl] at hf31_0); (try simp only [Nat.reduceMul, Nat.zero_mul, Nat.zero_add, Nat.reduceAdd] at hf31_0); replace p31 := eq_true p31; replace q31 := eq_true q31; obtain ⟨hy39_, hz39_⟩ := Kd.R_celln 0 HO_5.out (11 : Int) (by omega) (of_decide_eq_true (by first | (with_reducible assumption) | assumption)); (try simp only [Int.reduceToNat, Int.toNat_zero, Int.toNat_ofNat, Nat.reduceMul, Nat.zero_mul, Nat.zero_add] at hy39_ hz39_); (try rw [show ((11 : Int)).toNat = 11 from rfl] at hy39_); (try rw [show ((11 : Int)).toNat = 11 from rfl] at hz39_); have HP39 := Kd.R_putg HO_5.out (11 : Int) 255) | ((with_reducible refine gate_store (t := 5) (p := 65) rfl ?_); refine store_event (t := 5) (p := 65) (v := ?vo_w40) (w1 := (w38.setCell ⟨go30, (11 : Int).toNat, none⟩ (.int .u8 255))) ?hg ?ho ?hn ?hr ?_; (case ho => rfl); (case hg => rfl); (case hn => rfl); (case hr => first | (go_simp; done) | (go_simp; rfl)); intro w40 hw; have hg : w38.grownBy w40 (some go30) := (by rw [hw]; exact HP39.2); have hp_ : Kd.R (Kd.int .u8) 5 w40 w.heap.size (fun k_ => some k_ ≠ (.slice Ao13 t231.length co13 : Value).ownBlock ∧ some k_ ≠ (.slice Ao14 t234.length co14 : Value).ownBlock) (.slice (some ⟨go30, 0, none⟩) t241.length co36) y251 := (by rw [hw, Ny251.out]; exact HP39.1); clear HP39; have n0_ := Aside0.mk (hp_); have n1_ := Aside0.mk (Kd.R_after (v := (.slice (some ⟨go30, 0, none⟩) t241.length co36)) (v1 := (.slice (some ⟨go30, 0, none⟩) t241.length co36)) (ok := (fun k_ => some k_ ≠ (.slice Ao14 t234.length co14 : Value).ownBlock)) (by (with_reducible repeat (first | apply Kd.R_alloc | apply Kd.R_drewN | apply Kd.R_drew)); exact HO_239009.out) hg (.inl rfl)); have n2_ := Aside0.mk (Kd.R_after (v := (.slice (some ⟨go30, 0, none⟩) t241.length co36)) (v1 := (.slice (some ⟨go30, 0, none⟩) t241.length co36)) (ok := (fun k_ => some k_ ≠ (.slice Ao13 t231.length co13 : Value).ownBlock)) (by (with_reducible repeat (first | apply Kd.R_alloc | apply Kd.R_drewN | apply Kd.R_drew)); exact HO_239010.out) hg (.inl rfl)); have n3_ := Aside0.mk (blk_grown (g := gb238) (o := .cells #[.int .u8 t222, .int .u16 t223, .bool t224, .bool t225, .int .i64 t226, .int .u8 t227, .int .u8 t228, .int .u32 t229, .int .u32 t230, .slice Ao13 t231.length co13, .slice Ao14 t234.length co14] 37 (0, 0)) (by (with_reducible repeat (first | refine blk_drewN ?_ _ | refine blk_drew ?_ | refine blk_alloc ?_ _)); exact BK238.out) hg (Kd.R_ne HO_5.out BK238.out (by decide))); have n4_ := Aside0.mk ((by rw [hw]; exact below_set (HB.out) GB30.out : Below w.heap.size w w40)); clear HO_5; clear HO_239009; clear HO_239010; clear BK238; clear HB; have HO_5 := n0_; have HO_239009 := n1_; have HO_239010 := n2_; have BK238 := n3_; have HB := n4_; clear n0_ n1_ n2_ n3_ n4_; clear hg hw hp_))
                 have n0_ := Aside0.mk (Kd.R_drew HO_5.out)
                 have n1_ := Aside0.mk (Kd.R_drew HO_239009.out)
                 have n2_ := Aside0.mk (Kd.R_drew HO_239010.out)
                 have n3_ := Aside0.mk (blk_drew BK238.out)
                 have n4_ := Aside0.mk (below_drew1 HB.out)
                 clear HO_5
                 clear HO_239009
                 clear HO_239010
                 clear BK238
                 clear HB
                 have HO_5 := n0_
                 have HO_239009 := n1_
                 have HO_239010 := n2_
                 have BK238 := n3_
                 have HB := n4_
                 clear n0_ n1_ n2_ n3_ n4_
                 obtain ⟨i042, hi042, _, hsz42, _⟩ := info_parts info5
                 obtain ⟨hcut42, hA42, hC42⟩ := print_take_of (P := Try.prog) (Value.int .u8) 0 23 5 .i64 Try.underlying23 hi042 hsz42 (some ad246) c0 l0 (t241.length : Int) (of_decide_eq_true (by first | (with_reducible assumption) | assumption)) (of_decide_eq_true (by first | (with_reducible assumption) | assumption)) HC0.out
                 have HR252 := Aside0.mk (Kd.C_of_reads (h1 := fun _ => rfl) (hA42 _ (Kd.reads_of_C HR0.out)))
                 have HC252 := Aside0.mk hC42
                 clear hA42 hC42 hi042 hsz42
                 refine start_ (n := 12) (S := fun w' => True) (ds := []) (bb 12 0) (by kernel_rfl) rfl rfl trivial (fun hHeld => ?_); refine with_tabW towropelaw06_IpBack.tab11 towropelaw06_IpBack.bits11 (fun HT_ HW_ => ?_)
                 generalize w40.drew = w41 at HO_5 HO_239009 HO_239010 BK238 HB HR252 hHeld ⊢
                 refine pure_ (i := 0) (N := some 66) (v := ?_) (a' := ?_) (bb 12 1) rfl rfl (any_of HT_.out (by kernel_rfl)) (fun _ _ _ h => h) (Or.inl ⟨by rfl, ?_⟩) ?_ ?_
                 rotate_left
                 ·
                  intro w'
                  go_simp
                  with_reducible rfl
                 rotate_left
                 ·
                  simp only [Act.put, List.setIfInBounds_toArray, List.set_cons_zero, List.set_cons_succ, i64_w, i32_w]
                  rfl
                 refine pure_ (i := 2) (N := some 68) (v := ?_) (a' := ?_) (bb 12 5) rfl rfl (any_of HT_.out (by kernel_rfl)) (fun _ _ _ h => h) (Or.inl ⟨by rfl, ?_⟩) ?_ ?_
                 rotate_left
                 ·
                  intro w'
                  go_simp
                  with_reducible rfl
                 rotate_left
                 ·
                  simp only [Act.put, List.setIfInBounds_toArray, List.set_cons_zero, List.set_cons_succ, i64_w, i32_w]
                  rfl
                 refine pure_ (i := 3) (N := some 69) (v := ?_) (a' := ?_) (bb 12 13) rfl rfl (any_of HT_.out (by kernel_rfl)) (fun _ _ _ h => h) (Or.inl ⟨by rfl, ?_⟩) ?_ ?_
                 rotate_left
                 ·
                  intro w'
                  go_simp
                  with_reducible rfl
                 rotate_left
                 ·
                  simp only [Act.put, List.setIfInBounds_toArray, List.set_cons_zero, List.set_cons_succ, i64_w, i32_w]
                  rfl
                 refine pure_ (i := 4) (N := some 70) (v := ?_) (a' := ?_) (bb 12 29) rfl rfl (any_of HT_.out (by kernel_rfl)) (fun _ _ _ h => h) (Or.inl ⟨by rfl, ?_⟩) ?_ ?_
                 rotate_left
                 ·
                  intro w'
                  go_simp
                  with_reducible rfl
                 rotate_left
                 ·
                  simp only [Act.put, List.setIfInBounds_toArray, List.set_cons_zero, List.set_cons_succ, i64_w, i32_w]
                  rfl
                 refine pure_ (i := 5) (N := some 71) (v := ?_) (a' := ?_) (bb 12 61) rfl rfl (any_of HT_.out (by kernel_rfl)) (fun _ _ _ h => h) (Or.inl ⟨by rfl, ?_⟩) ?_ ?_
                 rotate_left
                 ·
                  intro w'
                  go_simp
                  with_reducible rfl
                 rotate_left
                 ·
                  simp only [Act.put, List.setIfInBounds_toArray, List.set_cons_zero, List.set_cons_succ, i64_w, i32_w]
                  rfl
                 refine join_ (σ := Unit) 5 (bb 12 127) (fun s_ => [(67, .string (strOfNums y251)), (72, .string (strOfNums (l0.take t241.length)))]) (fun s_ w' => (Kd.R (Kd.int .u8) 5 w' w.heap.size (fun k_ => some k_ ≠ (.slice Ao14 t234.length co14 : Value).ownBlock ∧ some k_ ≠ (.slice (some ⟨go30, 0, none⟩) t241.length co36 : Value).ownBlock) (.slice Ao13 t231.length co13) t231) ∧ (Kd.R (Kd.int .u8) 5 w' w.heap.size (fun k_ => some k_ ≠ (.slice Ao13 t231.length co13 : Value).ownBlock ∧ some k_ ≠ (.slice (some ⟨go30, 0, none⟩) t241.length co36 : Value).ownBlock) (.slice Ao14 t234.length co14) t234) ∧ (Kd.R (Kd.int .u8) 5 w' w.heap.size (fun k_ => some k_ ≠ (.slice Ao13 t231.length co13 : Value).ownBlock ∧ some k_ ≠ (.slice Ao14 t234.length co14 : Value).ownBlock) (.slice (some ⟨go30, 0, none⟩) t241.length co36) y251) ∧ (w'.heap[gb238]? = some (.cells #[.int .u8 t222, .int .u16 t223, .bool t224, .bool t225, .int .i64 t226, .int .u8 t227, .int .u8 t228, .int .u32 t229, .int .u32 t230, .slice Ao13 t231.length co13, .slice Ao14 t234.length co14] 37 (0, 0))) ∧ (Below w.heap.size w w')) ?_ ?_
                 rotate_left
                 ·
                  intro hCont
                  refine two_ (i := 1) (j := 6) (Ni := some 67) (Nj := some 72) (bb 12 63) (bb 12 125) rfl rfl rfl rfl (two_of HT_.out (by kernel_rfl)) (by decide) (by decide) (fun K hK => ?_) (fun K hK => ?_)
                  ·
                   skip
                   have hcv43 := And.intro (own_string (P := Try.prog) Try.underlying23 Try.underlying5 Try.underlying9 (Kd.own_of_R HO_5.out)) (fun n_ : Nat => own_string (P := Try.prog) Try.underlying23 Try.underlying5 Try.underlying9 (Kd.own_of_R (Kd.R_drewN HO_5.out n_)))
                   refine value_ (w1 := ?_) (v := ?_) (by rfl) rfl ?_ ?_
                   rotate_left 2
                   ·
                    go_simp
                    constructor
                    ·
                     rfl
                    ·
                     rfl
                   clear hcv43
                   refine hK.out _ _ trivial (fun hHeld => ?_)
                   clear hK K
                   refine norm_ (a' := ?_) ?_ ?_
                   rotate_left
                   ·
                    show Act.put _ (some 67) _ = _
                    simp only [Act.put, List.setIfInBounds_toArray, List.set_cons_zero, List.set_cons_succ, i64_w, i32_w]
                    rfl
                   refine one_ (i := 6) (N := some 72) (bb 12 127) rfl rfl (one_of HT_.out (by kernel_rfl)) (by decide) (fun K hK => ?_)
                   have hcv44 := And.intro (Kd.C_string (P := Try.prog) (A := (some ad246)) (c := c0) Try.underlying23 Try.underlying5 Try.underlying9 (Kd.C_below HR252.out HB.out)) (fun n_ : Nat => Kd.C_string (P := Try.prog) (A := (some ad246)) (c := c0) Try.underlying23 Try.underlying5 Try.underlying9 (Kd.C_drewN (Kd.C_below HR252.out HB.out) n_)); have hcv44m := hcv44; (try simp only [Int.toNat_natCast, List.length_take] at hcv44m)
                   refine value_ (w1 := ?_) (v := ?_) (by rfl) rfl ?_ ?_
                   rotate_left 2
                   ·
                    go_simp
                    constructor
                    ·
                     rfl
                    ·
                     rfl
                   clear hcv44 hcv44m
                   refine hK.out _ _ trivial (fun hHeld => ?_)
                   clear hK K
                   refine norm_ (a' := ?_) ?_ ?_
                   rotate_left
                   ·
                    show Act.put _ (some 72) _ = _
                    simp only [Act.put, List.setIfInBounds_toArray, List.set_cons_zero, List.set_cons_succ, i64_w, i32_w]
                    rfl
                   exact norm_ (by simp only [putAll, Act.put, List.setIfInBounds_toArray, List.set_cons_zero, List.set_cons_succ]) (hCont () _ ⟨(by (with_reducible repeat (first | apply Kd.R_alloc | apply Kd.R_drewN | apply Kd.R_drew)); exact HO_239009.out), (by (with_reducible repeat (first | apply Kd.R_alloc | apply Kd.R_drewN | apply Kd.R_drew)); exact HO_239010.out), (by (with_reducible repeat (first | apply Kd.R_alloc | apply Kd.R_drewN | apply Kd.R_drew)); exact HO_5.out), (by (with_reducible repeat (first | refine blk_drewN ?_ _ | refine blk_drew ?_ | refine blk_alloc ?_ _)); exact BK238.out), (by repeat (first | (with_reducible first | exact HB.out | apply below_alloc | apply pw_below_drewN | apply below_drew1 | refine below_set ?_ GE238.out) | exact HB.out))⟩)
                  ·
                   skip
                   have hcv43 := And.intro (Kd.C_string (P := Try.prog) (A := (some ad246)) (c := c0) Try.underlying23 Try.underlying5 Try.underlying9 (Kd.C_below HR252.out HB.out)) (fun n_ : Nat => Kd.C_string (P := Try.prog) (A := (some ad246)) (c := c0) Try.underlying23 Try.underlying5 Try.underlying9 (Kd.C_drewN (Kd.C_below HR252.out HB.out) n_)); have hcv43m := hcv43; (try simp only [Int.toNat_natCast, List.length_take] at hcv43m)
                   refine value_ (w1 := ?_) (v := ?_) (by rfl) rfl ?_ ?_
                   rotate_left 2
                   ·
                    go_simp
                    constructor
                    ·
                     rfl
                    ·
                     rfl
                   clear hcv43 hcv43m
                   refine hK.out _ _ trivial (fun hHeld => ?_)
                   clear hK K
                   refine norm_ (a' := ?_) ?_ ?_
                   rotate_left
                   ·
                    show Act.put _ (some 72) _ = _
                    simp only [Act.put, List.setIfInBounds_toArray, List.set_cons_zero, List.set_cons_succ, i64_w, i32_w]
                    rfl
                   refine one_ (i := 1) (N := some 67) (bb 12 127) rfl rfl (one_of HT_.out (by kernel_rfl)) (by decide) (fun K hK => ?_)
                   have hcv44 := And.intro (own_string (P := Try.prog) Try.underlying23 Try.underlying5 Try.underlying9 (Kd.own_of_R HO_5.out)) (fun n_ : Nat => own_string (P := Try.prog) Try.underlying23 Try.underlying5 Try.underlying9 (Kd.own_of_R (Kd.R_drewN HO_5.out n_)))
                   refine value_ (w1 := ?_) (v := ?_) (by rfl) rfl ?_ ?_
                   rotate_left 2
                   ·
                    go_simp
                    constructor
                    ·
                     rfl
                    ·
                     rfl
                   clear hcv44
                   refine hK.out _ _ trivial (fun hHeld => ?_)
                   clear hK K
                   refine norm_ (a' := ?_) ?_ ?_
                   rotate_left
                   ·
                    show Act.put _ (some 67) _ = _
                    simp only [Act.put, List.setIfInBounds_toArray, List.set_cons_zero, List.set_cons_succ, i64_w, i32_w]
                    rfl
                   exact norm_ (by simp only [putAll, Act.put, List.setIfInBounds_toArray, List.set_cons_zero, List.set_cons_succ]) (hCont () _ ⟨(by (with_reducible repeat (first | apply Kd.R_alloc | apply Kd.R_drewN | apply Kd.R_drew)); exact HO_239009.out), (by (with_reducible repeat (first | apply Kd.R_alloc | apply Kd.R_drewN | apply Kd.R_drew)); exact HO_239010.out), (by (with_reducible repeat (first | apply Kd.R_alloc | apply Kd.R_drewN | apply Kd.R_drew)); exact HO_5.out), (by (with_reducible repeat (first | refine blk_drewN ?_ _ | refine blk_drew ?_ | refine blk_alloc ?_ _)); exact BK238.out), (by repeat (first | (with_reducible first | exact HB.out | apply below_alloc | apply pw_below_drewN | apply below_drew1 | refine below_set ?_ GE238.out) | exact HB.out))⟩)
                 rintro _ w45 ⟨h0_, h1_, h2_, h3_, h4_⟩
                 have n0_ : Aside0 (Kd.R (Kd.int .u8) 5 w45 w.heap.size (fun k_ => some k_ ≠ (.slice Ao14 t234.length co14 : Value).ownBlock ∧ some k_ ≠ (.slice (some ⟨go30, 0, none⟩) t241.length co36 : Value).ownBlock) (.slice Ao13 t231.length co13) t231) := ⟨h0_⟩
                 have n1_ : Aside0 (Kd.R (Kd.int .u8) 5 w45 w.heap.size (fun k_ => some k_ ≠ (.slice Ao13 t231.length co13 : Value).ownBlock ∧ some k_ ≠ (.slice (some ⟨go30, 0, none⟩) t241.length co36 : Value).ownBlock) (.slice Ao14 t234.length co14) t234) := ⟨h1_⟩
                 have n2_ : Aside0 (Kd.R (Kd.int .u8) 5 w45 w.heap.size (fun k_ => some k_ ≠ (.slice Ao13 t231.length co13 : Value).ownBlock ∧ some k_ ≠ (.slice Ao14 t234.length co14 : Value).ownBlock) (.slice (some ⟨go30, 0, none⟩) t241.length co36) y251) := ⟨h2_⟩
                 have n3_ : Aside0 (w45.heap[gb238]? = some (.cells #[.int .u8 t222, .int .u16 t223, .bool t224, .bool t225, .int .i64 t226, .int .u8 t227, .int .u8 t228, .int .u32 t229, .int .u32 t230, .slice Ao13 t231.length co13, .slice Ao14 t234.length co14] 37 (0, 0))) := ⟨h3_⟩
                 have n4_ : Aside0 (Below w.heap.size w w45) := ⟨h4_⟩
                 clear HO_5
                 clear HO_239009
                 clear HO_239010
                 clear BK238
                 clear HB
                 clear h0_ h1_ h2_ h3_ h4_
                 have HO_239009 := n0_
                 have HO_239010 := n1_
                 have HO_5 := n2_
                 have BK238 := n3_
                 have HB := n4_
                 clear n0_ n1_ n2_ n3_ n4_
                 have hHeld := trivial
                 refine norm_ (a' := ?_) ?_ ?_
                 rotate_left
                 ·
                  simp only [putAll, Act.put, List.setIfInBounds_toArray, List.set_cons_zero, List.set_cons_succ]
                  rfl
                 refine pure_ (i := 7) (N := some 73) (v := ?_) (a' := ?_) (bb 12 255) rfl rfl (any_of HT_.out (by kernel_rfl)) (fun _ _ _ h => h) (Or.inl ⟨by rfl, ?_⟩) ?_ ?_
                 rotate_left
                 ·
                  intro w'
                  go_simp
                  with_reducible rfl
                 rotate_left
                 ·
                  simp only [Act.put, List.setIfInBounds_toArray, List.set_cons_zero, List.set_cons_succ, i64_w, i32_w]
                  rfl
                 refine pure_ (i := 8) (N := some 74) (v := ?_) (a' := ?_) (bb 12 511) rfl rfl (any_of HT_.out (by kernel_rfl)) (fun _ _ _ h => h) (Or.inl ⟨by rfl, ?_⟩) ?_ ?_
                 rotate_left
                 ·
                  intro w'
                  go_simp
                  with_reducible rfl
                 rotate_left
                 ·
                  simp only [Act.put, List.setIfInBounds_toArray, List.set_cons_zero, List.set_cons_succ, i64_w, i32_w]
                  rfl
                 refine one_ (i := 9) (N := some 75) (bb 12 1023) rfl rfl (one_of HT_.out (by kernel_rfl)) (by decide) (fun K hK => ?_)
                 refine goes_ Try.func22 (by kernel_rfl) rfl #[] (by rfl) rfl rfl (by (try simp only [List.map_toArray, List.map_cons, List.map_nil]); first | done | rfl | (simp only [List.length_drop, List.length_take]; rfl) | (go_simp; done) | (go_simp; omega)) ?_
                 with_reducible refine (towropelaw06_live.calls kj8  t253 _ A35.out).mono ?_
                 rintro e w46 ⟨rfl, hb⟩
                 refine ⟨_, rfl, ?_⟩
                 have n0_ := Aside0.mk (Kd.R_below (by (with_reducible repeat (first | apply Kd.R_alloc | apply Kd.R_drewN | apply Kd.R_drew)); exact HO_5.out) hb)
                 have n1_ := Aside0.mk (Kd.R_below (by (with_reducible repeat (first | apply Kd.R_alloc | apply Kd.R_drewN | apply Kd.R_drew)); exact HO_239009.out) hb)
                 have n2_ := Aside0.mk (Kd.R_below (by (with_reducible repeat (first | apply Kd.R_alloc | apply Kd.R_drewN | apply Kd.R_drew)); exact HO_239010.out) hb)
                 have n3_ := Aside0.mk (blk_below (g := gb238) (o := .cells #[.int .u8 t222, .int .u16 t223, .bool t224, .bool t225, .int .i64 t226, .int .u8 t227, .int .u8 t228, .int .u32 t229, .int .u32 t230, .slice Ao13 t231.length co13, .slice Ao14 t234.length co14] 37 (0, 0)) (by (with_reducible repeat (first | refine blk_drewN ?_ _ | refine blk_drew ?_ | refine blk_alloc ?_ _)); exact BK238.out) hb)
                 have n4_ := Aside0.mk (below_step (by repeat (first | (with_reducible first | exact HB.out | apply below_alloc | apply pw_below_drewN | apply below_drew1 | refine below_set ?_ GE238.out) | exact HB.out)) hb)
                 clear HO_5
                 clear HO_239009
                 clear HO_239010
                 clear BK238
                 clear HB
                 have HO_5 := n0_
                 have HO_239009 := n1_
                 have HO_239010 := n2_
                 have BK238 := n3_
                 have HB := n4_
                 clear n0_ n1_ n2_ n3_ n4_
                 (try clear hb)
                 (try clear hb2)
                 (try clear hk)
                 (try clear hi)
                 refine hK.out _ _ trivial (fun hHeld => ?_)
                 clear hK K
                 refine norm_ (a' := ?_) ?_ ?_
                 rotate_left
                 ·
                  show Act.put _ (some 75) _ = _
                  simp only [Act.put, List.setIfInBounds_toArray, List.set_cons_zero, List.set_cons_succ, i64_w, i32_w]
                  rfl
                 refine pure_ (i := 10) (N := some 76) (v := ?_) (a' := ?_) (bb 12 2047) rfl rfl (any_of HT_.out (by kernel_rfl)) (fun _ _ _ h => h) (Or.inl ⟨by rfl, ?_⟩) ?_ ?_
                 rotate_left
                 ·
                  intro w'
                  go_simp
                  with_reducible rfl
                 rotate_left
                 ·
                  simp only [Act.put, List.setIfInBounds_toArray, List.set_cons_zero, List.set_cons_succ, i64_w, i32_w]
                  rfl
                 refine pure_ (i := 11) (N := some 2) (v := ?_) (a' := ?_) (bb 12 4095) rfl rfl (any_of HT_.out (by kernel_rfl)) (fun _ _ _ h => h) (Or.inl ⟨by rfl, ?_⟩) ?_ ?_
                 rotate_left
                 ·
                  intro w'
                  go_simp
                  with_reducible rfl
                 rotate_left
                 ·
                  simp only [Act.put, List.setIfInBounds_toArray, List.set_cons_zero, List.set_cons_succ, i64_w, i32_w]
                  rfl
                 refine done_ (done_of HT_.out (by kernel_rfl)) ?_
                 try go_wp2
                 go_ret
                 exact ⟨by first | rfl | (simp [errW_none, errW_some] <;> rfl) | (simp [*, errW_none, errW_some] <;> rfl), by repeat (first | (with_reducible first | exact HB.out | apply below_alloc | apply pw_below_drewN | apply below_drew1 | refine below_set ?_ GE238.out) | exact HB.out)⟩
                ·
                 rw [if_neg c34] at H
                 have c34b0 : ((strOfNums y251).toList == (strOfNums (l0.take t241.length)).toList) = false := beq_eq_false_iff_ne.mpr c34
                 have c34b1 : ((strOfNums y251).toList != (strOfNums (l0.take t241.length)).toList) = true := bne_iff_ne.mpr c34
                 exact absurd ((Option.some.inj H).trans HRT.out) (by decide)
               ·
                rw [if_neg c33] at H
                exact absurd H (by simp)
              ·
               rw [if_neg c32] at H
               exact absurd H (by simp)
             ·
              rw [if_neg c29] at H
              have c29b0 : ((rd t241 11) == 0) = false := beq_eq_false_iff_ne.mpr c29
              have c29b1 : ((rd t241 11) != 0) = true := bne_iff_ne.mpr c29
              by_cases c57 : 0 ≤ (t241.length : Int)
              ·
               rw [if_pos c57] at H
               have c57b0 := eq_true c57
               have c57b1 : decide (0 ≤ (t241.length : Int)) = true := decide_eq_true c57
               clear c57
               by_cases c58 : (t241.length : Int) ≤ (l0.length : Int)
               ·
                rw [if_pos c58] at H
                have c58b0 := eq_true c58
                have c58b1 : decide ((t241.length : Int) ≤ (l0.length : Int)) = true := decide_eq_true c58
                clear c58
                by_cases c59 : (strOfNums t241).toList = (strOfNums (l0.take t241.length)).toList
                ·
                 rw [if_pos c59] at H
                 have c59b0 : ((strOfNums t241).toList == (strOfNums (l0.take t241.length)).toList) = true := beq_iff_eq.mpr c59
                 have c59b1 : ((strOfNums t241).toList != (strOfNums (l0.take t241.length)).toList) = false := bne_eq_false_iff_eq.mpr c59
                 clear c59
                 replace H := Option.bind_eq_some_iff.mp H
                 obtain ⟨t255, A600, H⟩ := H
                 replace H : (some t255) = some r := H
                 have A60 := Aside0.mk A600
                 clear A600
                 obtain rfl := Option.some.inj H
                 have p246 : 0 ≤ (10 : Int) := (by omega)
                 have q246 : 10 < (l0.length : Int) := of_decide_eq_true (by first | (with_reducible assumption) | assumption)
                 obtain ⟨ad246, e246, hx246_0⟩ := Kd.at_int HR0.out 10 p246 q246
                 cases e246
                 (try simp only [show (10 : Int).toNat = 10 from rfl, Nat.reduceMul, Nat.reduceEqDiff, Go.Addr.add, ↓reduceIte] at hx246_0)
                 have qi246 : (10 < l0.length) = True := eq_true (by omega)
                 (try rw [show ((10 : Int)).toNat = 10 from rfl] at hx246_0)
                 replace hx246_0 := (HB.out.cell (World.block_lt_of_cell? w _ hx246_0)).trans hx246_0
                 replace p246 := eq_true p246
                 replace q246 := eq_true q246
                 have p247 : 0 ≤ (11 : Int) := (by omega)
                 have q247 : 11 < (l0.length : Int) := of_decide_eq_true (by first | (with_reducible assumption) | assumption)
                 obtain ⟨ad247, e247, hx247_0⟩ := Kd.at_int HR0.out 11 p247 q247
                 obtain rfl : ad246 = ad247 := (by injection e247)
                 (try simp only [show (11 : Int).toNat = 11 from rfl, Nat.reduceMul, Nat.reduceEqDiff, Go.Addr.add, ↓reduceIte] at hx247_0)
                 have qi247 : (11 < l0.length) = True := eq_true (by omega)
                 (try rw [show ((11 : Int)).toNat = 11 from rfl] at hx247_0)
                 replace hx247_0 := (HB.out.cell (World.block_lt_of_cell? w _ hx247_0)).trans hx247_0
                 replace p247 := eq_true p247
                 replace q247 := eq_true q247
                 obtain ⟨Ao61, co61, eo61⟩ := Kd.R_slice HO_5.out
                 subst eo61
                 have p248 : 0 ≤ (10 : Int) := (by omega)
                 have q248 : 10 < (t241.length : Int) := of_decide_eq_true (by first | (with_reducible assumption) | assumption)
                 obtain ⟨ad248, e248, hx248_0⟩ := Kd.at_int (Kd.R_reads' HO_5.out).2.2 10 p248 q248
                 cases e248
                 (try simp only [show (10 : Int).toNat = 10 from rfl, Nat.reduceMul, Nat.reduceEqDiff, Go.Addr.add, ↓reduceIte] at hx248_0)
                 have qi248 : (10 < t241.length) = True := eq_true (by omega)
                 (try rw [show ((10 : Int)).toNat = 10 from rfl] at hx248_0)
                 replace p248 := eq_true p248
                 replace q248 := eq_true q248
                 have p249 : 0 ≤ (11 : Int) := (by omega)
                 have q249 : 11 < (t241.length : Int) := of_decide_eq_true (by first | (with_reducible assumption) | assumption)
                 obtain ⟨ad249, e249, hx249_0⟩ := Kd.at_int (Kd.R_reads' HO_5.out).2.2 11 p249 q249
                 obtain rfl : ad248 = ad249 := (by injection e249)
                 (try simp only [show (11 : Int).toNat = 11 from rfl, Nat.reduceMul, Nat.reduceEqDiff, Go.Addr.add, ↓reduceIte] at hx249_0)
                 have qi249 : (11 < t241.length) = True := eq_true (by omega)
                 (try rw [show ((11 : Int)).toNat = 11 from rfl] at hx249_0)
                 replace p249 := eq_true p249
                 replace q249 := eq_true q249
                 try go_wp2
                 have n0_ := Aside0.mk (Kd.R_drew HO_5.out)
                 have n1_ := Aside0.mk (Kd.R_drew HO_239009.out)
                 have n2_ := Aside0.mk (Kd.R_drew HO_239010.out)
                 have n3_ := Aside0.mk (blk_drew BK238.out)
                 have n4_ := Aside0.mk (below_drew1 HB.out)
                 clear HO_5
                 clear HO_239009
                 clear HO_239010
                 clear BK238
                 clear HB
                 have HO_5 := n0_
                 have HO_239009 := n1_
                 have HO_239010 := n2_
                 have BK238 := n3_
                 have HB := n4_
                 clear n0_ n1_ n2_ n3_ n4_
                 obtain ⟨i063, hi063, _, hsz63, _⟩ := info_parts info5
                 obtain ⟨hcut63, hA63, hC63⟩ := print_take_of (P := Try.prog) (Value.int .u8) 0 23 5 .i64 Try.underlying23 hi063 hsz63 (some ad246) c0 l0 (t241.length : Int) (of_decide_eq_true (by first | (with_reducible assumption) | assumption)) (of_decide_eq_true (by first | (with_reducible assumption) | assumption)) HC0.out
                 have HR254 := Aside0.mk (Kd.C_of_reads (h1 := fun _ => rfl) (hA63 _ (Kd.reads_of_C HR0.out)))
                 have HC254 := Aside0.mk hC63
                 clear hA63 hC63 hi063 hsz63
                 refine start_ (n := 12) (S := fun w' => True) (ds := []) (bb 12 0) (by kernel_rfl) rfl rfl trivial (fun hHeld => ?_); refine with_tabW towropelaw06_IpBack.tab11 towropelaw06_IpBack.bits11 (fun HT_ HW_ => ?_)
                 generalize wc.drew = w62 at HO_5 HO_239009 HO_239010 BK238 HB HR254 hHeld ⊢
                 refine pure_ (i := 0) (N := some 66) (v := ?_) (a' := ?_) (bb 12 1) rfl rfl (any_of HT_.out (by kernel_rfl)) (fun _ _ _ h => h) (Or.inl ⟨by rfl, ?_⟩) ?_ ?_
                 rotate_left
                 ·
                  intro w'
                  go_simp
                  with_reducible rfl
                 rotate_left
                 ·
                  simp only [Act.put, List.setIfInBounds_toArray, List.set_cons_zero, List.set_cons_succ, i64_w, i32_w]
                  rfl
                 refine pure_ (i := 2) (N := some 68) (v := ?_) (a' := ?_) (bb 12 5) rfl rfl (any_of HT_.out (by kernel_rfl)) (fun _ _ _ h => h) (Or.inl ⟨by rfl, ?_⟩) ?_ ?_
                 rotate_left
                 ·
                  intro w'
                  go_simp
                  with_reducible rfl
                 rotate_left
                 ·
                  simp only [Act.put, List.setIfInBounds_toArray, List.set_cons_zero, List.set_cons_succ, i64_w, i32_w]
                  rfl
                 refine pure_ (i := 3) (N := some 69) (v := ?_) (a' := ?_) (bb 12 13) rfl rfl (any_of HT_.out (by kernel_rfl)) (fun _ _ _ h => h) (Or.inl ⟨by rfl, ?_⟩) ?_ ?_
                 rotate_left
                 ·
                  intro w'
                  go_simp
                  with_reducible rfl
                 rotate_left
                 ·
                  simp only [Act.put, List.setIfInBounds_toArray, List.set_cons_zero, List.set_cons_succ, i64_w, i32_w]
                  rfl
                 refine pure_ (i := 4) (N := some 70) (v := ?_) (a' := ?_) (bb 12 29) rfl rfl (any_of HT_.out (by kernel_rfl)) (fun _ _ _ h => h) (Or.inl ⟨by rfl, ?_⟩) ?_ ?_
                 rotate_left
                 ·
                  intro w'
                  go_simp
                  with_reducible rfl
                 rotate_left
                 ·
                  simp only [Act.put, List.setIfInBounds_toArray, List.set_cons_zero, List.set_cons_succ, i64_w, i32_w]
                  rfl
                 refine pure_ (i := 5) (N := some 71) (v := ?_) (a' := ?_) (bb 12 61) rfl rfl (any_of HT_.out (by kernel_rfl)) (fun _ _ _ h => h) (Or.inl ⟨by rfl, ?_⟩) ?_ ?_
                 rotate_left
                 ·
                  intro w'
                  go_simp
                  with_reducible rfl
                 rotate_left
                 ·
                  simp only [Act.put, List.setIfInBounds_toArray, List.set_cons_zero, List.set_cons_succ, i64_w, i32_w]
                  rfl
                 refine join_ (σ := Unit) 5 (bb 12 127) (fun s_ => [(67, .string (strOfNums t241)), (72, .string (strOfNums (l0.take t241.length)))]) (fun s_ w' => (Kd.R (Kd.int .u8) 5 w' w.heap.size (fun k_ => some k_ ≠ (.slice Ao14 t234.length co14 : Value).ownBlock ∧ some k_ ≠ (.slice (some ad248) t241.length co61 : Value).ownBlock) (.slice Ao13 t231.length co13) t231) ∧ (Kd.R (Kd.int .u8) 5 w' w.heap.size (fun k_ => some k_ ≠ (.slice Ao13 t231.length co13 : Value).ownBlock ∧ some k_ ≠ (.slice (some ad248) t241.length co61 : Value).ownBlock) (.slice Ao14 t234.length co14) t234) ∧ (Kd.R (Kd.int .u8) 5 w' w.heap.size (fun k_ => some k_ ≠ (.slice Ao13 t231.length co13 : Value).ownBlock ∧ some k_ ≠ (.slice Ao14 t234.length co14 : Value).ownBlock) (.slice (some ad248) t241.length co61) t241) ∧ (w'.heap[gb238]? = some (.cells #[.int .u8 t222, .int .u16 t223, .bool t224, .bool t225, .int .i64 t226, .int .u8 t227, .int .u8 t228, .int .u32 t229, .int .u32 t230, .slice Ao13 t231.length co13, .slice Ao14 t234.length co14] 37 (0, 0))) ∧ (Below w.heap.size w w')) ?_ ?_
                 rotate_left
                 ·
                  intro hCont
                  refine two_ (i := 1) (j := 6) (Ni := some 67) (Nj := some 72) (bb 12 63) (bb 12 125) rfl rfl rfl rfl (two_of HT_.out (by kernel_rfl)) (by decide) (by decide) (fun K hK => ?_) (fun K hK => ?_)
                  ·
                   skip
                   have hcv64 := And.intro (own_string (P := Try.prog) Try.underlying23 Try.underlying5 Try.underlying9 (Kd.own_of_R HO_5.out)) (fun n_ : Nat => own_string (P := Try.prog) Try.underlying23 Try.underlying5 Try.underlying9 (Kd.own_of_R (Kd.R_drewN HO_5.out n_)))
                   refine value_ (w1 := ?_) (v := ?_) (by rfl) rfl ?_ ?_
                   rotate_left 2
                   ·
                    go_simp
                    constructor
                    ·
                     rfl
                    ·
                     rfl
                   clear hcv64
                   refine hK.out _ _ trivial (fun hHeld => ?_)
                   clear hK K
                   refine norm_ (a' := ?_) ?_ ?_
                   rotate_left
                   ·
                    show Act.put _ (some 67) _ = _
                    simp only [Act.put, List.setIfInBounds_toArray, List.set_cons_zero, List.set_cons_succ, i64_w, i32_w]
                    rfl
                   refine one_ (i := 6) (N := some 72) (bb 12 127) rfl rfl (one_of HT_.out (by kernel_rfl)) (by decide) (fun K hK => ?_)
                   have hcv65 := And.intro (Kd.C_string (P := Try.prog) (A := (some ad246)) (c := c0) Try.underlying23 Try.underlying5 Try.underlying9 (Kd.C_below HR254.out HB.out)) (fun n_ : Nat => Kd.C_string (P := Try.prog) (A := (some ad246)) (c := c0) Try.underlying23 Try.underlying5 Try.underlying9 (Kd.C_drewN (Kd.C_below HR254.out HB.out) n_)); have hcv65m := hcv65; (try simp only [Int.toNat_natCast, List.length_take] at hcv65m)
                   refine value_ (w1 := ?_) (v := ?_) (by rfl) rfl ?_ ?_
                   rotate_left 2
                   ·
                    go_simp
                    constructor
                    ·
                     rfl
                    ·
                     rfl
                   clear hcv65 hcv65m
                   refine hK.out _ _ trivial (fun hHeld => ?_)
                   clear hK K
                   refine norm_ (a' := ?_) ?_ ?_
                   rotate_left
                   ·
                    show Act.put _ (some 72) _ = _
                    simp only [Act.put, List.setIfInBounds_toArray, List.set_cons_zero, List.set_cons_succ, i64_w, i32_w]
                    rfl
                   exact norm_ (by simp only [putAll, Act.put, List.setIfInBounds_toArray, List.set_cons_zero, List.set_cons_succ]) (hCont () _ ⟨(by (with_reducible repeat (first | apply Kd.R_alloc | apply Kd.R_drewN | apply Kd.R_drew)); exact Kd.R_mono HO_239009.out (fun _ hk => ⟨hk.2, hk.1⟩)), (by (with_reducible repeat (first | apply Kd.R_alloc | apply Kd.R_drewN | apply Kd.R_drew)); exact Kd.R_mono HO_239010.out (fun _ hk => ⟨hk.2, hk.1⟩)), (by (with_reducible repeat (first | apply Kd.R_alloc | apply Kd.R_drewN | apply Kd.R_drew)); exact HO_5.out), (by (with_reducible repeat (first | refine blk_drewN ?_ _ | refine blk_drew ?_ | refine blk_alloc ?_ _)); exact BK238.out), (by repeat (first | (with_reducible first | exact HB.out | apply below_alloc | apply pw_below_drewN | apply below_drew1 | refine below_set ?_ GE238.out) | exact HB.out))⟩)
                  ·
                   skip
                   have hcv64 := And.intro (Kd.C_string (P := Try.prog) (A := (some ad246)) (c := c0) Try.underlying23 Try.underlying5 Try.underlying9 (Kd.C_below HR254.out HB.out)) (fun n_ : Nat => Kd.C_string (P := Try.prog) (A := (some ad246)) (c := c0) Try.underlying23 Try.underlying5 Try.underlying9 (Kd.C_drewN (Kd.C_below HR254.out HB.out) n_)); have hcv64m := hcv64; (try simp only [Int.toNat_natCast, List.length_take] at hcv64m)
                   refine value_ (w1 := ?_) (v := ?_) (by rfl) rfl ?_ ?_
                   rotate_left 2
                   ·
                    go_simp
                    constructor
                    ·
                     rfl
                    ·
                     rfl
                   clear hcv64 hcv64m
                   refine hK.out _ _ trivial (fun hHeld => ?_)
                   clear hK K
                   refine norm_ (a' := ?_) ?_ ?_
                   rotate_left
                   ·
                    show Act.put _ (some 72) _ = _
                    simp only [Act.put, List.setIfInBounds_toArray, List.set_cons_zero, List.set_cons_succ, i64_w, i32_w]
                    rfl
                   refine one_ (i := 1) (N := some 67) (bb 12 127) rfl rfl (one_of HT_.out (by kernel_rfl)) (by decide) (fun K hK => ?_)
                   have hcv65 := And.intro (own_string (P := Try.prog) Try.underlying23 Try.underlying5 Try.underlying9 (Kd.own_of_R HO_5.out)) (fun n_ : Nat => own_string (P := Try.prog) Try.underlying23 Try.underlying5 Try.underlying9 (Kd.own_of_R (Kd.R_drewN HO_5.out n_)))
                   refine value_ (w1 := ?_) (v := ?_) (by rfl) rfl ?_ ?_
                   rotate_left 2
                   ·
                    go_simp
                    constructor
                    ·
                     rfl
                    ·
                     rfl
                   clear hcv65
                   refine hK.out _ _ trivial (fun hHeld => ?_)
                   clear hK K
                   refine norm_ (a' := ?_) ?_ ?_
                   rotate_left
                   ·
                    show Act.put _ (some 67) _ = _
                    simp only [Act.put, List.setIfInBounds_toArray, List.set_cons_zero, List.set_cons_succ, i64_w, i32_w]
                    rfl
                   exact norm_ (by simp only [putAll, Act.put, List.setIfInBounds_toArray, List.set_cons_zero, List.set_cons_succ]) (hCont () _ ⟨(by (with_reducible repeat (first | apply Kd.R_alloc | apply Kd.R_drewN | apply Kd.R_drew)); exact Kd.R_mono HO_239009.out (fun _ hk => ⟨hk.2, hk.1⟩)), (by (with_reducible repeat (first | apply Kd.R_alloc | apply Kd.R_drewN | apply Kd.R_drew)); exact Kd.R_mono HO_239010.out (fun _ hk => ⟨hk.2, hk.1⟩)), (by (with_reducible repeat (first | apply Kd.R_alloc | apply Kd.R_drewN | apply Kd.R_drew)); exact HO_5.out), (by (with_reducible repeat (first | refine blk_drewN ?_ _ | refine blk_drew ?_ | refine blk_alloc ?_ _)); exact BK238.out), (by repeat (first | (with_reducible first | exact HB.out | apply below_alloc | apply pw_below_drewN | apply below_drew1 | refine below_set ?_ GE238.out) | exact HB.out))⟩)
                 rintro _ w66 ⟨h0_, h1_, h2_, h3_, h4_⟩
                 have n0_ : Aside0 (Kd.R (Kd.int .u8) 5 w66 w.heap.size (fun k_ => some k_ ≠ (.slice Ao14 t234.length co14 : Value).ownBlock ∧ some k_ ≠ (.slice (some ad248) t241.length co61 : Value).ownBlock) (.slice Ao13 t231.length co13) t231) := ⟨h0_⟩
                 have n1_ : Aside0 (Kd.R (Kd.int .u8) 5 w66 w.heap.size (fun k_ => some k_ ≠ (.slice Ao13 t231.length co13 : Value).ownBlock ∧ some k_ ≠ (.slice (some ad248) t241.length co61 : Value).ownBlock) (.slice Ao14 t234.length co14) t234) := ⟨h1_⟩
                 have n2_ : Aside0 (Kd.R (Kd.int .u8) 5 w66 w.heap.size (fun k_ => some k_ ≠ (.slice Ao13 t231.length co13 : Value).ownBlock ∧ some k_ ≠ (.slice Ao14 t234.length co14 : Value).ownBlock) (.slice (some ad248) t241.length co61) t241) := ⟨h2_⟩
                 have n3_ : Aside0 (w66.heap[gb238]? = some (.cells #[.int .u8 t222, .int .u16 t223, .bool t224, .bool t225, .int .i64 t226, .int .u8 t227, .int .u8 t228, .int .u32 t229, .int .u32 t230, .slice Ao13 t231.length co13, .slice Ao14 t234.length co14] 37 (0, 0))) := ⟨h3_⟩
                 have n4_ : Aside0 (Below w.heap.size w w66) := ⟨h4_⟩
                 clear HO_5
                 clear HO_239009
                 clear HO_239010
                 clear BK238
                 clear HB
                 clear h0_ h1_ h2_ h3_ h4_
                 have HO_239009 := n0_
                 have HO_239010 := n1_
                 have HO_5 := n2_
                 have BK238 := n3_
                 have HB := n4_
                 clear n0_ n1_ n2_ n3_ n4_
                 have hHeld := trivial
                 refine norm_ (a' := ?_) ?_ ?_
                 rotate_left
                 ·
                  simp only [putAll, Act.put, List.setIfInBounds_toArray, List.set_cons_zero, List.set_cons_succ]
                  rfl
                 refine pure_ (i := 7) (N := some 73) (v := ?_) (a' := ?_) (bb 12 255) rfl rfl (any_of HT_.out (by kernel_rfl)) (fun _ _ _ h => h) (Or.inl ⟨by rfl, ?_⟩) ?_ ?_
                 rotate_left
                 ·
                  intro w'
                  go_simp
                  with_reducible rfl
                 rotate_left
                 ·
                  simp only [Act.put, List.setIfInBounds_toArray, List.set_cons_zero, List.set_cons_succ, i64_w, i32_w]
                  rfl
                 refine pure_ (i := 8) (N := some 74) (v := ?_) (a' := ?_) (bb 12 511) rfl rfl (any_of HT_.out (by kernel_rfl)) (fun _ _ _ h => h) (Or.inl ⟨by rfl, ?_⟩) ?_ ?_
                 rotate_left
                 ·
                  intro w'
                  go_simp
                  with_reducible rfl
                 rotate_left
                 ·
                  simp only [Act.put, List.setIfInBounds_toArray, List.set_cons_zero, List.set_cons_succ, i64_w, i32_w]
                  rfl
                 refine one_ (i := 9) (N := some 75) (bb 12 1023) rfl rfl (one_of HT_.out (by kernel_rfl)) (by decide) (fun K hK => ?_)
                 refine goes_ Try.func22 (by kernel_rfl) rfl #[] (by rfl) rfl rfl (by (try simp only [List.map_toArray, List.map_cons, List.map_nil]); first | done | rfl | (simp only [List.length_drop, List.length_take]; rfl) | (go_simp; done) | (go_simp; omega)) ?_
                 with_reducible refine (towropelaw06_live.calls kj8  t255 _ A60.out).mono ?_
                 rintro e w67 ⟨rfl, hb⟩
                 refine ⟨_, rfl, ?_⟩
                 have n0_ := Aside0.mk (Kd.R_below (by (with_reducible repeat (first | apply Kd.R_alloc | apply Kd.R_drewN | apply Kd.R_drew)); exact HO_5.out) hb)
                 have n1_ := Aside0.mk (Kd.R_below (by (with_reducible repeat (first | apply Kd.R_alloc | apply Kd.R_drewN | apply Kd.R_drew)); exact HO_239009.out) hb)
                 have n2_ := Aside0.mk (Kd.R_below (by (with_reducible repeat (first | apply Kd.R_alloc | apply Kd.R_drewN | apply Kd.R_drew)); exact HO_239010.out) hb)
                 have n3_ := Aside0.mk (blk_below (g := gb238) (o := .cells #[.int .u8 t222, .int .u16 t223, .bool t224, .bool t225, .int .i64 t226, .int .u8 t227, .int .u8 t228, .int .u32 t229, .int .u32 t230, .slice Ao13 t231.length co13, .slice Ao14 t234.length co14] 37 (0, 0)) (by (with_reducible repeat (first | refine blk_drewN ?_ _ | refine blk_drew ?_ | refine blk_alloc ?_ _)); exact BK238.out) hb)
                 have n4_ := Aside0.mk (below_step (by repeat (first | (with_reducible first | exact HB.out | apply below_alloc | apply pw_below_drewN | apply below_drew1 | refine below_set ?_ GE238.out) | exact HB.out)) hb)
                 clear HO_5
                 clear HO_239009
                 clear HO_239010
                 clear BK238
                 clear HB
                 have HO_5 := n0_
                 have HO_239009 := n1_
                 have HO_239010 := n2_
                 have BK238 := n3_
                 have HB := n4_
                 clear n0_ n1_ n2_ n3_ n4_
                 (try clear hb)
                 (try clear hb2)
                 (try clear hk)
                 (try clear hi)
                 refine hK.out _ _ trivial (fun hHeld => ?_)
                 clear hK K
                 refine norm_ (a' := ?_) ?_ ?_
                 rotate_left
                 ·
                  show Act.put _ (some 75) _ = _
                  simp only [Act.put, List.setIfInBounds_toArray, List.set_cons_zero, List.set_cons_succ, i64_w, i32_w]
                  rfl
                 refine pure_ (i := 10) (N := some 76) (v := ?_) (a' := ?_) (bb 12 2047) rfl rfl (any_of HT_.out (by kernel_rfl)) (fun _ _ _ h => h) (Or.inl ⟨by rfl, ?_⟩) ?_ ?_
                 rotate_left
                 ·
                  intro w'
                  go_simp
                  with_reducible rfl
                 rotate_left
                 ·
                  simp only [Act.put, List.setIfInBounds_toArray, List.set_cons_zero, List.set_cons_succ, i64_w, i32_w]
                  rfl
                 refine pure_ (i := 11) (N := some 2) (v := ?_) (a' := ?_) (bb 12 4095) rfl rfl (any_of HT_.out (by kernel_rfl)) (fun _ _ _ h => h) (Or.inl ⟨by rfl, ?_⟩) ?_ ?_
                 rotate_left
                 ·
                  intro w'
                  go_simp
                  with_reducible rfl
                 rotate_left
                 ·
                  simp only [Act.put, List.setIfInBounds_toArray, List.set_cons_zero, List.set_cons_succ, i64_w, i32_w]
                  rfl
                 refine done_ (done_of HT_.out (by kernel_rfl)) ?_
                 try go_wp2
                 go_ret
                 exact ⟨by first | rfl | (simp [errW_none, errW_some] <;> rfl) | (simp [*, errW_none, errW_some] <;> rfl), by repeat (first | (with_reducible first | exact HB.out | apply below_alloc | apply pw_below_drewN | apply below_drew1 | refine below_set ?_ GE238.out) | exact HB.out)⟩
                ·
                 rw [if_neg c59] at H
                 have c59b0 : ((strOfNums t241).toList == (strOfNums (l0.take t241.length)).toList) = false := beq_eq_false_iff_ne.mpr c59
                 have c59b1 : ((strOfNums t241).toList != (strOfNums (l0.take t241.length)).toList) = true := bne_iff_ne.mpr c59
                 exact absurd ((Option.some.inj H).trans HRT.out) (by decide)
               ·
                rw [if_neg c58] at H
                exact absurd H (by simp)
              ·
               rw [if_neg c57] at H
               exact absurd H (by simp)
            ·
             rw [if_neg c28] at H
             exact absurd H (by simp)
           ·
            rw [if_neg c27] at H
            have c27b0 : ((rd t241 10) == 0) = false := beq_eq_false_iff_ne.mpr c27
            have c27b1 : ((rd t241 10) != 0) = true := bne_iff_ne.mpr c27
            by_cases c74 : 0 ≤ (t241.length : Int)
            ·
             rw [if_pos c74] at H
             have c74b0 := eq_true c74
             have c74b1 : decide (0 ≤ (t241.length : Int)) = true := decide_eq_true c74
             clear c74
             by_cases c75 : (t241.length : Int) ≤ (l0.length : Int)
             ·
              rw [if_pos c75] at H
              have c75b0 := eq_true c75
              have c75b1 : decide ((t241.length : Int) ≤ (l0.length : Int)) = true := decide_eq_true c75
              clear c75
              by_cases c76 : (strOfNums t241).toList = (strOfNums (l0.take t241.length)).toList
              ·
               rw [if_pos c76] at H
               have c76b0 : ((strOfNums t241).toList == (strOfNums (l0.take t241.length)).toList) = true := beq_iff_eq.mpr c76
               have c76b1 : ((strOfNums t241).toList != (strOfNums (l0.take t241.length)).toList) = false := bne_eq_false_iff_eq.mpr c76
               clear c76
               replace H := Option.bind_eq_some_iff.mp H
               obtain ⟨t257, A770, H⟩ := H
               replace H : (some t257) = some r := H
               have A77 := Aside0.mk A770
               clear A770
               obtain rfl := Option.some.inj H
               have p246 : 0 ≤ (10 : Int) := (by omega)
               have q246 : 10 < (l0.length : Int) := of_decide_eq_true (by first | (with_reducible assumption) | assumption)
               obtain ⟨ad246, e246, hx246_0⟩ := Kd.at_int HR0.out 10 p246 q246
               cases e246
               (try simp only [show (10 : Int).toNat = 10 from rfl, Nat.reduceMul, Nat.reduceEqDiff, Go.Addr.add, ↓reduceIte] at hx246_0)
               have qi246 : (10 < l0.length) = True := eq_true (by omega)
               (try rw [show ((10 : Int)).toNat = 10 from rfl] at hx246_0)
               replace hx246_0 := (HB.out.cell (World.block_lt_of_cell? w _ hx246_0)).trans hx246_0
               replace p246 := eq_true p246
               replace q246 := eq_true q246
               have p247 : 0 ≤ (11 : Int) := (by omega)
               have q247 : 11 < (l0.length : Int) := of_decide_eq_true (by first | (with_reducible assumption) | assumption)
               obtain ⟨ad247, e247, hx247_0⟩ := Kd.at_int HR0.out 11 p247 q247
               obtain rfl : ad246 = ad247 := (by injection e247)
               (try simp only [show (11 : Int).toNat = 11 from rfl, Nat.reduceMul, Nat.reduceEqDiff, Go.Addr.add, ↓reduceIte] at hx247_0)
               have qi247 : (11 < l0.length) = True := eq_true (by omega)
               (try rw [show ((11 : Int)).toNat = 11 from rfl] at hx247_0)
               replace hx247_0 := (HB.out.cell (World.block_lt_of_cell? w _ hx247_0)).trans hx247_0
               replace p247 := eq_true p247
               replace q247 := eq_true q247
               obtain ⟨Ao78, co78, eo78⟩ := Kd.R_slice HO_5.out
               subst eo78
               have p248 : 0 ≤ (10 : Int) := (by omega)
               have q248 : 10 < (t241.length : Int) := of_decide_eq_true (by first | (with_reducible assumption) | assumption)
               obtain ⟨ad248, e248, hx248_0⟩ := Kd.at_int (Kd.R_reads' HO_5.out).2.2 10 p248 q248
               cases e248
               (try simp only [show (10 : Int).toNat = 10 from rfl, Nat.reduceMul, Nat.reduceEqDiff, Go.Addr.add, ↓reduceIte] at hx248_0)
               have qi248 : (10 < t241.length) = True := eq_true (by omega)
               (try rw [show ((10 : Int)).toNat = 10 from rfl] at hx248_0)
               replace p248 := eq_true p248
               replace q248 := eq_true q248
               try go_wp2
               have n0_ := Aside0.mk (Kd.R_drew HO_5.out)
               have n1_ := Aside0.mk (Kd.R_drew HO_239009.out)
               have n2_ := Aside0.mk (Kd.R_drew HO_239010.out)
               have n3_ := Aside0.mk (blk_drew BK238.out)
               have n4_ := Aside0.mk (below_drew1 HB.out)
               clear HO_5
               clear HO_239009
               clear HO_239010
               clear BK238
               clear HB
               have HO_5 := n0_
               have HO_239009 := n1_
               have HO_239010 := n2_
               have BK238 := n3_
               have HB := n4_
               clear n0_ n1_ n2_ n3_ n4_
               obtain ⟨i080, hi080, _, hsz80, _⟩ := info_parts info5
               obtain ⟨hcut80, hA80, hC80⟩ := print_take_of (P := Try.prog) (Value.int .u8) 0 23 5 .i64 Try.underlying23 hi080 hsz80 (some ad246) c0 l0 (t241.length : Int) (of_decide_eq_true (by first | (with_reducible assumption) | assumption)) (of_decide_eq_true (by first | (with_reducible assumption) | assumption)) HC0.out
               have HR256 := Aside0.mk (Kd.C_of_reads (h1 := fun _ => rfl) (hA80 _ (Kd.reads_of_C HR0.out)))
               have HC256 := Aside0.mk hC80
               clear hA80 hC80 hi080 hsz80
               refine start_ (n := 12) (S := fun w' => True) (ds := []) (bb 12 0) (by kernel_rfl) rfl rfl trivial (fun hHeld => ?_); refine with_tabW towropelaw06_IpBack.tab11 towropelaw06_IpBack.bits11 (fun HT_ HW_ => ?_)
               generalize wc.drew = w79 at HO_5 HO_239009 HO_239010 BK238 HB HR256 hHeld ⊢
               refine pure_ (i := 0) (N := some 66) (v := ?_) (a' := ?_) (bb 12 1) rfl rfl (any_of HT_.out (by kernel_rfl)) (fun _ _ _ h => h) (Or.inl ⟨by rfl, ?_⟩) ?_ ?_
               rotate_left
               ·
                intro w'
                go_simp
                with_reducible rfl
               rotate_left
               ·
                simp only [Act.put, List.setIfInBounds_toArray, List.set_cons_zero, List.set_cons_succ, i64_w, i32_w]
                rfl
               refine pure_ (i := 2) (N := some 68) (v := ?_) (a' := ?_) (bb 12 5) rfl rfl (any_of HT_.out (by kernel_rfl)) (fun _ _ _ h => h) (Or.inl ⟨by rfl, ?_⟩) ?_ ?_
               rotate_left
               ·
                intro w'
                go_simp
                with_reducible rfl
               rotate_left
               ·
                simp only [Act.put, List.setIfInBounds_toArray, List.set_cons_zero, List.set_cons_succ, i64_w, i32_w]
                rfl
               refine pure_ (i := 3) (N := some 69) (v := ?_) (a' := ?_) (bb 12 13) rfl rfl (any_of HT_.out (by kernel_rfl)) (fun _ _ _ h => h) (Or.inl ⟨by rfl, ?_⟩) ?_ ?_
               rotate_left
               ·
                intro w'
                go_simp
                with_reducible rfl
               rotate_left
               ·
                simp only [Act.put, List.setIfInBounds_toArray, List.set_cons_zero, List.set_cons_succ, i64_w, i32_w]
                rfl
               refine pure_ (i := 4) (N := some 70) (v := ?_) (a' := ?_) (bb 12 29) rfl rfl (any_of HT_.out (by kernel_rfl)) (fun _ _ _ h => h) (Or.inl ⟨by rfl, ?_⟩) ?_ ?_
               rotate_left
               ·
                intro w'
                go_simp
                with_reducible rfl
               rotate_left
               ·
                simp only [Act.put, List.setIfInBounds_toArray, List.set_cons_zero, List.set_cons_succ, i64_w, i32_w]
                rfl
               refine pure_ (i := 5) (N := some 71) (v := ?_) (a' := ?_) (bb 12 61) rfl rfl (any_of HT_.out (by kernel_rfl)) (fun _ _ _ h => h) (Or.inl ⟨by rfl, ?_⟩) ?_ ?_
               rotate_left
               ·
                intro w'
                go_simp
                with_reducible rfl
               rotate_left
               ·
                simp only [Act.put, List.setIfInBounds_toArray, List.set_cons_zero, List.set_cons_succ, i64_w, i32_w]
                rfl
               refine join_ (σ := Unit) 5 (bb 12 127) (fun s_ => [(67, .string (strOfNums t241)), (72, .string (strOfNums (l0.take t241.length)))]) (fun s_ w' => (Kd.R (Kd.int .u8) 5 w' w.heap.size (fun k_ => some k_ ≠ (.slice Ao14 t234.length co14 : Value).ownBlock ∧ some k_ ≠ (.slice (some ad248) t241.length co78 : Value).ownBlock) (.slice Ao13 t231.length co13) t231) ∧ (Kd.R (Kd.int .u8) 5 w' w.heap.size (fun k_ => some k_ ≠ (.slice Ao13 t231.length co13 : Value).ownBlock ∧ some k_ ≠ (.slice (some ad248) t241.length co78 : Value).ownBlock) (.slice Ao14 t234.length co14) t234) ∧ (Kd.R (Kd.int .u8) 5 w' w.heap.size (fun k_ => some k_ ≠ (.slice Ao13 t231.length co13 : Value).ownBlock ∧ some k_ ≠ (.slice Ao14 t234.length co14 : Value).ownBlock) (.slice (some ad248) t241.length co78) t241) ∧ (w'.heap[gb238]? = some (.cells #[.int .u8 t222, .int .u16 t223, .bool t224, .bool t225, .int .i64 t226, .int .u8 t227, .int .u8 t228, .int .u32 t229, .int .u32 t230, .slice Ao13 t231.length co13, .slice Ao14 t234.length co14] 37 (0, 0))) ∧ (Below w.heap.size w w')) ?_ ?_
               rotate_left
               ·
                intro hCont
                refine two_ (i := 1) (j := 6) (Ni := some 67) (Nj := some 72) (bb 12 63) (bb 12 125) rfl rfl rfl rfl (two_of HT_.out (by kernel_rfl)) (by decide) (by decide) (fun K hK => ?_) (fun K hK => ?_)
                ·
                 skip
                 have hcv81 := And.intro (own_string (P := Try.prog) Try.underlying23 Try.underlying5 Try.underlying9 (Kd.own_of_R HO_5.out)) (fun n_ : Nat => own_string (P := Try.prog) Try.underlying23 Try.underlying5 Try.underlying9 (Kd.own_of_R (Kd.R_drewN HO_5.out n_)))
                 refine value_ (w1 := ?_) (v := ?_) (by rfl) rfl ?_ ?_
                 rotate_left 2
                 ·
                  go_simp
                  constructor
                  ·
                   rfl
                  ·
                   rfl
                 clear hcv81
                 refine hK.out _ _ trivial (fun hHeld => ?_)
                 clear hK K
                 refine norm_ (a' := ?_) ?_ ?_
                 rotate_left
                 ·
                  show Act.put _ (some 67) _ = _
                  simp only [Act.put, List.setIfInBounds_toArray, List.set_cons_zero, List.set_cons_succ, i64_w, i32_w]
                  rfl
                 refine one_ (i := 6) (N := some 72) (bb 12 127) rfl rfl (one_of HT_.out (by kernel_rfl)) (by decide) (fun K hK => ?_)
                 have hcv82 := And.intro (Kd.C_string (P := Try.prog) (A := (some ad246)) (c := c0) Try.underlying23 Try.underlying5 Try.underlying9 (Kd.C_below HR256.out HB.out)) (fun n_ : Nat => Kd.C_string (P := Try.prog) (A := (some ad246)) (c := c0) Try.underlying23 Try.underlying5 Try.underlying9 (Kd.C_drewN (Kd.C_below HR256.out HB.out) n_)); have hcv82m := hcv82; (try simp only [Int.toNat_natCast, List.length_take] at hcv82m)
                 refine value_ (w1 := ?_) (v := ?_) (by rfl) rfl ?_ ?_
                 rotate_left 2
                 ·
                  go_simp
                  constructor
                  ·
                   rfl
                  ·
                   rfl
                 clear hcv82 hcv82m
                 refine hK.out _ _ trivial (fun hHeld => ?_)
                 clear hK K
                 refine norm_ (a' := ?_) ?_ ?_
                 rotate_left
                 ·
                  show Act.put _ (some 72) _ = _
                  simp only [Act.put, List.setIfInBounds_toArray, List.set_cons_zero, List.set_cons_succ, i64_w, i32_w]
                  rfl
                 exact norm_ (by simp only [putAll, Act.put, List.setIfInBounds_toArray, List.set_cons_zero, List.set_cons_succ]) (hCont () _ ⟨(by (with_reducible repeat (first | apply Kd.R_alloc | apply Kd.R_drewN | apply Kd.R_drew)); exact Kd.R_mono HO_239009.out (fun _ hk => ⟨hk.2, hk.1⟩)), (by (with_reducible repeat (first | apply Kd.R_alloc | apply Kd.R_drewN | apply Kd.R_drew)); exact Kd.R_mono HO_239010.out (fun _ hk => ⟨hk.2, hk.1⟩)), (by (with_reducible repeat (first | apply Kd.R_alloc | apply Kd.R_drewN | apply Kd.R_drew)); exact HO_5.out), (by (with_reducible repeat (first | refine blk_drewN ?_ _ | refine blk_drew ?_ | refine blk_alloc ?_ _)); exact BK238.out), (by repeat (first | (with_reducible first | exact HB.out | apply below_alloc | apply pw_below_drewN | apply below_drew1 | refine below_set ?_ GE238.out) | exact HB.out))⟩)
                ·
                 skip
                 have hcv81 := And.intro (Kd.C_string (P := Try.prog) (A := (some ad246)) (c := c0) Try.underlying23 Try.underlying5 Try.underlying9 (Kd.C_below HR256.out HB.out)) (fun n_ : Nat => Kd.C_string (P := Try.prog) (A := (some ad246)) (c := c0) Try.underlying23 Try.underlying5 Try.underlying9 (Kd.C_drewN (Kd.C_below HR256.out HB.out) n_)); have hcv81m := hcv81; (try simp only [Int.toNat_natCast, List.length_take] at hcv81m)
                 refine value_ (w1 := ?_) (v := ?_) (by rfl) rfl ?_ ?_
                 rotate_left 2
                 ·
                  go_simp
                  constructor
                  ·
                   rfl
                  ·
                   rfl
                 clear hcv81 hcv81m
                 refine hK.out _ _ trivial (fun hHeld => ?_)
                 clear hK K
                 refine norm_ (a' := ?_) ?_ ?_
                 rotate_left
                 ·
                  show Act.put _ (some 72) _ = _
                  simp only [Act.put, List.setIfInBounds_toArray, List.set_cons_zero, List.set_cons_succ, i64_w, i32_w]
                  rfl
                 refine one_ (i := 1) (N := some 67) (bb 12 127) rfl rfl (one_of HT_.out (by kernel_rfl)) (by decide) (fun K hK => ?_)
                 have hcv82 := And.intro (own_string (P := Try.prog) Try.underlying23 Try.underlying5 Try.underlying9 (Kd.own_of_R HO_5.out)) (fun n_ : Nat => own_string (P := Try.prog) Try.underlying23 Try.underlying5 Try.underlying9 (Kd.own_of_R (Kd.R_drewN HO_5.out n_)))
                 refine value_ (w1 := ?_) (v := ?_) (by rfl) rfl ?_ ?_
                 rotate_left 2
                 ·
                  go_simp
                  constructor
                  ·
                   rfl
                  ·
                   rfl
                 clear hcv82
                 refine hK.out _ _ trivial (fun hHeld => ?_)
                 clear hK K
                 refine norm_ (a' := ?_) ?_ ?_
                 rotate_left
                 ·
                  show Act.put _ (some 67) _ = _
                  simp only [Act.put, List.setIfInBounds_toArray, List.set_cons_zero, List.set_cons_succ, i64_w, i32_w]
                  rfl
                 exact norm_ (by simp only [putAll, Act.put, List.setIfInBounds_toArray, List.set_cons_zero, List.set_cons_succ]) (hCont () _ ⟨(by (with_reducible repeat (first | apply Kd.R_alloc | apply Kd.R_drewN | apply Kd.R_drew)); exact Kd.R_mono HO_239009.out (fun _ hk => ⟨hk.2, hk.1⟩)), (by (with_reducible repeat (first | apply Kd.R_alloc | apply Kd.R_drewN | apply Kd.R_drew)); exact Kd.R_mono HO_239010.out (fun _ hk => ⟨hk.2, hk.1⟩)), (by (with_reducible repeat (first | apply Kd.R_alloc | apply Kd.R_drewN | apply Kd.R_drew)); exact HO_5.out), (by (with_reducible repeat (first | refine blk_drewN ?_ _ | refine blk_drew ?_ | refine blk_alloc ?_ _)); exact BK238.out), (by repeat (first | (with_reducible first | exact HB.out | apply below_alloc | apply pw_below_drewN | apply below_drew1 | refine below_set ?_ GE238.out) | exact HB.out))⟩)
               rintro _ w83 ⟨h0_, h1_, h2_, h3_, h4_⟩
               have n0_ : Aside0 (Kd.R (Kd.int .u8) 5 w83 w.heap.size (fun k_ => some k_ ≠ (.slice Ao14 t234.length co14 : Value).ownBlock ∧ some k_ ≠ (.slice (some ad248) t241.length co78 : Value).ownBlock) (.slice Ao13 t231.length co13) t231) := ⟨h0_⟩
               have n1_ : Aside0 (Kd.R (Kd.int .u8) 5 w83 w.heap.size (fun k_ => some k_ ≠ (.slice Ao13 t231.length co13 : Value).ownBlock ∧ some k_ ≠ (.slice (some ad248) t241.length co78 : Value).ownBlock) (.slice Ao14 t234.length co14) t234) := ⟨h1_⟩
               have n2_ : Aside0 (Kd.R (Kd.int .u8) 5 w83 w.heap.size (fun k_ => some k_ ≠ (.slice Ao13 t231.length co13 : Value).ownBlock ∧ some k_ ≠ (.slice Ao14 t234.length co14 : Value).ownBlock) (.slice (some ad248) t241.length co78) t241) := ⟨h2_⟩
               have n3_ : Aside0 (w83.heap[gb238]? = some (.cells #[.int .u8 t222, .int .u16 t223, .bool t224, .bool t225, .int .i64 t226, .int .u8 t227, .int .u8 t228, .int .u32 t229, .int .u32 t230, .slice Ao13 t231.length co13, .slice Ao14 t234.length co14] 37 (0, 0))) := ⟨h3_⟩
               have n4_ : Aside0 (Below w.heap.size w w83) := ⟨h4_⟩
               clear HO_5
               clear HO_239009
               clear HO_239010
               clear BK238
               clear HB
               clear h0_ h1_ h2_ h3_ h4_
               have HO_239009 := n0_
               have HO_239010 := n1_
               have HO_5 := n2_
               have BK238 := n3_
               have HB := n4_
               clear n0_ n1_ n2_ n3_ n4_
               have hHeld := trivial
               refine norm_ (a' := ?_) ?_ ?_
               rotate_left
               ·
                simp only [putAll, Act.put, List.setIfInBounds_toArray, List.set_cons_zero, List.set_cons_succ]
                rfl
               refine pure_ (i := 7) (N := some 73) (v := ?_) (a' := ?_) (bb 12 255) rfl rfl (any_of HT_.out (by kernel_rfl)) (fun _ _ _ h => h) (Or.inl ⟨by rfl, ?_⟩) ?_ ?_
               rotate_left
               ·
                intro w'
                go_simp
                with_reducible rfl
               rotate_left
               ·
                simp only [Act.put, List.setIfInBounds_toArray, List.set_cons_zero, List.set_cons_succ, i64_w, i32_w]
                rfl
               refine pure_ (i := 8) (N := some 74) (v := ?_) (a' := ?_) (bb 12 511) rfl rfl (any_of HT_.out (by kernel_rfl)) (fun _ _ _ h => h) (Or.inl ⟨by rfl, ?_⟩) ?_ ?_
               rotate_left
               ·
                intro w'
                go_simp
                with_reducible rfl
               rotate_left
               ·
                simp only [Act.put, List.setIfInBounds_toArray, List.set_cons_zero, List.set_cons_succ, i64_w, i32_w]
                rfl
               refine one_ (i := 9) (N := some 75) (bb 12 1023) rfl rfl (one_of HT_.out (by kernel_rfl)) (by decide) (fun K hK => ?_)
               refine goes_ Try.func22 (by kernel_rfl) rfl #[] (by rfl) rfl rfl (by (try simp only [List.map_toArray, List.map_cons, List.map_nil]); first | done | rfl | (simp only [List.length_drop, List.length_take]; rfl) | (go_simp; done) | (go_simp; omega)) ?_
               with_reducible refine (towropelaw06_live.calls kj8  t257 _ A77.out).mono ?_
               rintro e w84 ⟨rfl, hb⟩
               refine ⟨_, rfl, ?_⟩
               have n0_ := Aside0.mk (Kd.R_below (by (with_reducible repeat (first | apply Kd.R_alloc | apply Kd.R_drewN | apply Kd.R_drew)); exact HO_5.out) hb)
               have n1_ := Aside0.mk (Kd.R_below (by (with_reducible repeat (first | apply Kd.R_alloc | apply Kd.R_drewN | apply Kd.R_drew)); exact HO_239009.out) hb)
               have n2_ := Aside0.mk (Kd.R_below (by (with_reducible repeat (first | apply Kd.R_alloc | apply Kd.R_drewN | apply Kd.R_drew)); exact HO_239010.out) hb)
               have n3_ := Aside0.mk (blk_below (g := gb238) (o := .cells #[.int .u8 t222, .int .u16 t223, .bool t224, .bool t225, .int .i64 t226, .int .u8 t227, .int .u8 t228, .int .u32 t229, .int .u32 t230, .slice Ao13 t231.length co13, .slice Ao14 t234.length co14] 37 (0, 0)) (by (with_reducible repeat (first | refine blk_drewN ?_ _ | refine blk_drew ?_ | refine blk_alloc ?_ _)); exact BK238.out) hb)
               have n4_ := Aside0.mk (below_step (by repeat (first | (with_reducible first | exact HB.out | apply below_alloc | apply pw_below_drewN | apply below_drew1 | refine below_set ?_ GE238.out) | exact HB.out)) hb)
               clear HO_5
               clear HO_239009
               clear HO_239010
               clear BK238
               clear HB
               have HO_5 := n0_
               have HO_239009 := n1_
               have HO_239010 := n2_
               have BK238 := n3_
               have HB := n4_
               clear n0_ n1_ n2_ n3_ n4_
               (try clear hb)
               (try clear hb2)
               (try clear hk)
               (try clear hi)
               refine hK.out _ _ trivial (fun hHeld => ?_)
               clear hK K
               refine norm_ (a' := ?_) ?_ ?_
               rotate_left
               ·
                show Act.put _ (some 75) _ = _
                simp only [Act.put, List.setIfInBounds_toArray, List.set_cons_zero, List.set_cons_succ, i64_w, i32_w]
                rfl
               refine pure_ (i := 10) (N := some 76) (v := ?_) (a' := ?_) (bb 12 2047) rfl rfl (any_of HT_.out (by kernel_rfl)) (fun _ _ _ h => h) (Or.inl ⟨by rfl, ?_⟩) ?_ ?_
               rotate_left
               ·
                intro w'
                go_simp
                with_reducible rfl
               rotate_left
               ·
                simp only [Act.put, List.setIfInBounds_toArray, List.set_cons_zero, List.set_cons_succ, i64_w, i32_w]
                rfl
               refine pure_ (i := 11) (N := some 2) (v := ?_) (a' := ?_) (bb 12 4095) rfl rfl (any_of HT_.out (by kernel_rfl)) (fun _ _ _ h => h) (Or.inl ⟨by rfl, ?_⟩) ?_ ?_
               rotate_left
               ·
                intro w'
                go_simp
                with_reducible rfl
               rotate_left
               ·
                simp only [Act.put, List.setIfInBounds_toArray, List.set_cons_zero, List.set_cons_succ, i64_w, i32_w]
                rfl
               refine done_ (done_of HT_.out (by kernel_rfl)) ?_
               try go_wp2
               go_ret
               exact ⟨by first | rfl | (simp [errW_none, errW_some] <;> rfl) | (simp [*, errW_none, errW_some] <;> rfl), by repeat (first | (with_reducible first | exact HB.out | apply below_alloc | apply pw_below_drewN | apply below_drew1 | refine below_set ?_ GE238.out) | exact HB.out)⟩
              ·
               rw [if_neg c76] at H
               have c76b0 : ((strOfNums t241).toList == (strOfNums (l0.take t241.length)).toList) = false := beq_eq_false_iff_ne.mpr c76
               have c76b1 : ((strOfNums t241).toList != (strOfNums (l0.take t241.length)).toList) = true := bne_iff_ne.mpr c76
               exact absurd ((Option.some.inj H).trans HRT.out) (by decide)
             ·
              rw [if_neg c75] at H
              exact absurd H (by simp)
            ·
             rw [if_neg c74] at H
             exact absurd H (by simp)
          ·
           rw [if_neg c26] at H
           exact absurd H (by simp)
         ·
          rw [if_neg c25] at H
          have c25b0 : ((rd l0 11) == 255) = false := beq_eq_false_iff_ne.mpr c25
          have c25b1 : ((rd l0 11) != 255) = true := bne_iff_ne.mpr c25
          by_cases c91 : 0 ≤ (t241.length : Int)
          ·
           rw [if_pos c91] at H
           have c91b0 := eq_true c91
           have c91b1 : decide (0 ≤ (t241.length : Int)) = true := decide_eq_true c91
           clear c91
           by_cases c92 : (t241.length : Int) ≤ (l0.length : Int)
           ·
            rw [if_pos c92] at H
            have c92b0 := eq_true c92
            have c92b1 : decide ((t241.length : Int) ≤ (l0.length : Int)) = true := decide_eq_true c92
            clear c92
            by_cases c93 : (strOfNums t241).toList = (strOfNums (l0.take t241.length)).toList
            ·
             rw [if_pos c93] at H
             have c93b0 : ((strOfNums t241).toList == (strOfNums (l0.take t241.length)).toList) = true := beq_iff_eq.mpr c93
             have c93b1 : ((strOfNums t241).toList != (strOfNums (l0.take t241.length)).toList) = false := bne_eq_false_iff_eq.mpr c93
             clear c93
             replace H := Option.bind_eq_some_iff.mp H
             obtain ⟨t259, A940, H⟩ := H
             replace H : (some t259) = some r := H
             have A94 := Aside0.mk A940
             clear A940
             obtain rfl := Option.some.inj H
             have p246 : 0 ≤ (10 : Int) := (by omega)
             have q246 : 10 < (l0.length : Int) := of_decide_eq_true (by first | (with_reducible assumption) | assumption)
             obtain ⟨ad246, e246, hx246_0⟩ := Kd.at_int HR0.out 10 p246 q246
             cases e246
             (try simp only [show (10 : Int).toNat = 10 from rfl, Nat.reduceMul, Nat.reduceEqDiff, Go.Addr.add, ↓reduceIte] at hx246_0)
             have qi246 : (10 < l0.length) = True := eq_true (by omega)
             (try rw [show ((10 : Int)).toNat = 10 from rfl] at hx246_0)
             replace hx246_0 := (HB.out.cell (World.block_lt_of_cell? w _ hx246_0)).trans hx246_0
             replace p246 := eq_true p246
             replace q246 := eq_true q246
             have p247 : 0 ≤ (11 : Int) := (by omega)
             have q247 : 11 < (l0.length : Int) := of_decide_eq_true (by first | (with_reducible assumption) | assumption)
             obtain ⟨ad247, e247, hx247_0⟩ := Kd.at_int HR0.out 11 p247 q247
             obtain rfl : ad246 = ad247 := (by injection e247)
             (try simp only [show (11 : Int).toNat = 11 from rfl, Nat.reduceMul, Nat.reduceEqDiff, Go.Addr.add, ↓reduceIte] at hx247_0)
             have qi247 : (11 < l0.length) = True := eq_true (by omega)
             (try rw [show ((11 : Int)).toNat = 11 from rfl] at hx247_0)
             replace hx247_0 := (HB.out.cell (World.block_lt_of_cell? w _ hx247_0)).trans hx247_0
             replace p247 := eq_true p247
             replace q247 := eq_true q247
             try go_wp2
             have n0_ := Aside0.mk (Kd.R_drew HO_5.out)
             have n1_ := Aside0.mk (Kd.R_drew HO_239009.out)
             have n2_ := Aside0.mk (Kd.R_drew HO_239010.out)
             have n3_ := Aside0.mk (blk_drew BK238.out)
             have n4_ := Aside0.mk (below_drew1 HB.out)
             clear HO_5
             clear HO_239009
             clear HO_239010
             clear BK238
             clear HB
             have HO_5 := n0_
             have HO_239009 := n1_
             have HO_239010 := n2_
             have BK238 := n3_
             have HB := n4_
             clear n0_ n1_ n2_ n3_ n4_
             obtain ⟨Ao96, co96, eo96⟩ := Kd.R_slice HO_5.out
             (first | subst eo96 | (injection eo96 with f1_ f2_ f3_; have f4_ := f1_.symm; have f5_ := f3_.symm; clear f1_ f2_ f3_; subst f4_; subst f5_))
             obtain ⟨i097, hi097, _, hsz97, _⟩ := info_parts info5
             obtain ⟨hcut97, hA97, hC97⟩ := print_take_of (P := Try.prog) (Value.int .u8) 0 23 5 .i64 Try.underlying23 hi097 hsz97 (some ad246) c0 l0 (t241.length : Int) (of_decide_eq_true (by first | (with_reducible assumption) | assumption)) (of_decide_eq_true (by first | (with_reducible assumption) | assumption)) HC0.out
             have HR258 := Aside0.mk (Kd.C_of_reads (h1 := fun _ => rfl) (hA97 _ (Kd.reads_of_C HR0.out)))
             have HC258 := Aside0.mk hC97
             clear hA97 hC97 hi097 hsz97
             refine start_ (n := 12) (S := fun w' => True) (ds := []) (bb 12 0) (by kernel_rfl) rfl rfl trivial (fun hHeld => ?_); refine with_tabW towropelaw06_IpBack.tab11 towropelaw06_IpBack.bits11 (fun HT_ HW_ => ?_)
             generalize wc.drew = w95 at HO_5 HO_239009 HO_239010 BK238 HB HR258 hHeld ⊢
             refine pure_ (i := 0) (N := some 66) (v := ?_) (a' := ?_) (bb 12 1) rfl rfl (any_of HT_.out (by kernel_rfl)) (fun _ _ _ h => h) (Or.inl ⟨by rfl, ?_⟩) ?_ ?_
             rotate_left
             ·
              intro w'
              go_simp
              with_reducible rfl
             rotate_left
             ·
              simp only [Act.put, List.setIfInBounds_toArray, List.set_cons_zero, List.set_cons_succ, i64_w, i32_w]
              rfl
             refine pure_ (i := 2) (N := some 68) (v := ?_) (a' := ?_) (bb 12 5) rfl rfl (any_of HT_.out (by kernel_rfl)) (fun _ _ _ h => h) (Or.inl ⟨by rfl, ?_⟩) ?_ ?_
             rotate_left
             ·
              intro w'
              go_simp
              with_reducible rfl
             rotate_left
             ·
              simp only [Act.put, List.setIfInBounds_toArray, List.set_cons_zero, List.set_cons_succ, i64_w, i32_w]
              rfl
             refine pure_ (i := 3) (N := some 69) (v := ?_) (a' := ?_) (bb 12 13) rfl rfl (any_of HT_.out (by kernel_rfl)) (fun _ _ _ h => h) (Or.inl ⟨by rfl, ?_⟩) ?_ ?_
             rotate_left
             ·
              intro w'
              go_simp
              with_reducible rfl
             rotate_left
             ·
              simp only [Act.put, List.setIfInBounds_toArray, List.set_cons_zero, List.set_cons_succ, i64_w, i32_w]
              rfl
             refine pure_ (i := 4) (N := some 70) (v := ?_) (a' := ?_) (bb 12 29) rfl rfl (any_of HT_.out (by kernel_rfl)) (fun _ _ _ h => h) (Or.inl ⟨by rfl, ?_⟩) ?_ ?_
             rotate_left
             ·
              intro w'
              go_simp
              with_reducible rfl
             rotate_left
             ·
              simp only [Act.put, List.setIfInBounds_toArray, List.set_cons_zero, List.set_cons_succ, i64_w, i32_w]
              rfl
             refine pure_ (i := 5) (N := some 71) (v := ?_) (a' := ?_) (bb 12 61) rfl rfl (any_of HT_.out (by kernel_rfl)) (fun _ _ _ h => h) (Or.inl ⟨by rfl, ?_⟩) ?_ ?_
             rotate_left
             ·
              intro w'
              go_simp
              with_reducible rfl
             rotate_left
             ·
              simp only [Act.put, List.setIfInBounds_toArray, List.set_cons_zero, List.set_cons_succ, i64_w, i32_w]
              rfl
             refine join_ (σ := Unit) 5 (bb 12 127) (fun s_ => [(67, .string (strOfNums t241)), (72, .string (strOfNums (l0.take t241.length)))]) (fun s_ w' => (Kd.R (Kd.int .u8) 5 w' w.heap.size (fun k_ => some k_ ≠ (.slice Ao14 t234.length co14 : Value).ownBlock ∧ some k_ ≠ (.slice Ao96 t241.length co96 : Value).ownBlock) (.slice Ao13 t231.length co13) t231) ∧ (Kd.R (Kd.int .u8) 5 w' w.heap.size (fun k_ => some k_ ≠ (.slice Ao13 t231.length co13 : Value).ownBlock ∧ some k_ ≠ (.slice Ao96 t241.length co96 : Value).ownBlock) (.slice Ao14 t234.length co14) t234) ∧ (Kd.R (Kd.int .u8) 5 w' w.heap.size (fun k_ => some k_ ≠ (.slice Ao13 t231.length co13 : Value).ownBlock ∧ some k_ ≠ (.slice Ao14 t234.length co14 : Value).ownBlock) (.slice Ao96 t241.length co96) t241) ∧ (w'.heap[gb238]? = some (.cells #[.int .u8 t222, .int .u16 t223, .bool t224, .bool t225, .int .i64 t226, .int .u8 t227, .int .u8 t228, .int .u32 t229, .int .u32 t230, .slice Ao13 t231.length co13, .slice Ao14 t234.length co14] 37 (0, 0))) ∧ (Below w.heap.size w w')) ?_ ?_
             rotate_left
             ·
              intro hCont
              refine two_ (i := 1) (j := 6) (Ni := some 67) (Nj := some 72) (bb 12 63) (bb 12 125) rfl rfl rfl rfl (two_of HT_.out (by kernel_rfl)) (by decide) (by decide) (fun K hK => ?_) (fun K hK => ?_)
              ·
               skip
               have hcv98 := And.intro (own_string (P := Try.prog) Try.underlying23 Try.underlying5 Try.underlying9 (Kd.own_of_R HO_5.out)) (fun n_ : Nat => own_string (P := Try.prog) Try.underlying23 Try.underlying5 Try.underlying9 (Kd.own_of_R (Kd.R_drewN HO_5.out n_)))
               refine value_ (w1 := ?_) (v := ?_) (by rfl) rfl ?_ ?_
               rotate_left 2
               ·
                go_simp
                constructor
                ·
                 rfl
                ·
                 rfl
               clear hcv98
               refine hK.out _ _ trivial (fun hHeld => ?_)
               clear hK K
               refine norm_ (a' := ?_) ?_ ?_
               rotate_left
               ·
                show Act.put _ (some 67) _ = _
                simp only [Act.put, List.setIfInBounds_toArray, List.set_cons_zero, List.set_cons_succ, i64_w, i32_w]
                rfl
               refine one_ (i := 6) (N := some 72) (bb 12 127) rfl rfl (one_of HT_.out (by kernel_rfl)) (by decide) (fun K hK => ?_)
               have hcv99 := And.intro (Kd.C_string (P := Try.prog) (A := (some ad246)) (c := c0) Try.underlying23 Try.underlying5 Try.underlying9 (Kd.C_below HR258.out HB.out)) (fun n_ : Nat => Kd.C_string (P := Try.prog) (A := (some ad246)) (c := c0) Try.underlying23 Try.underlying5 Try.underlying9 (Kd.C_drewN (Kd.C_below HR258.out HB.out) n_)); have hcv99m := hcv99; (try simp only [Int.toNat_natCast, List.length_take] at hcv99m)
               refine value_ (w1 := ?_) (v := ?_) (by rfl) rfl ?_ ?_
               rotate_left 2
               ·
                go_simp
                constructor
                ·
                 rfl
                ·
                 rfl
               clear hcv99 hcv99m
               refine hK.out _ _ trivial (fun hHeld => ?_)
               clear hK K
               refine norm_ (a' := ?_) ?_ ?_
               rotate_left
               ·
                show Act.put _ (some 72) _ = _
                simp only [Act.put, List.setIfInBounds_toArray, List.set_cons_zero, List.set_cons_succ, i64_w, i32_w]
                rfl
               exact norm_ (by simp only [putAll, Act.put, List.setIfInBounds_toArray, List.set_cons_zero, List.set_cons_succ]) (hCont () _ ⟨(by (with_reducible repeat (first | apply Kd.R_alloc | apply Kd.R_drewN | apply Kd.R_drew)); exact Kd.R_mono HO_239009.out (fun _ hk => ⟨hk.2, hk.1⟩)), (by (with_reducible repeat (first | apply Kd.R_alloc | apply Kd.R_drewN | apply Kd.R_drew)); exact Kd.R_mono HO_239010.out (fun _ hk => ⟨hk.2, hk.1⟩)), (by (with_reducible repeat (first | apply Kd.R_alloc | apply Kd.R_drewN | apply Kd.R_drew)); exact HO_5.out), (by (with_reducible repeat (first | refine blk_drewN ?_ _ | refine blk_drew ?_ | refine blk_alloc ?_ _)); exact BK238.out), (by repeat (first | (with_reducible first | exact HB.out | apply below_alloc | apply pw_below_drewN | apply below_drew1 | refine below_set ?_ GE238.out) | exact HB.out))⟩)
              ·
               skip
               have hcv98 := And.intro (Kd.C_string (P := Try.prog) (A := (some ad246)) (c := c0) Try.underlying23 Try.underlying5 Try.underlying9 (Kd.C_below HR258.out HB.out)) (fun n_ : Nat => Kd.C_string (P := Try.prog) (A := (some ad246)) (c := c0) Try.underlying23 Try.underlying5 Try.underlying9 (Kd.C_drewN (Kd.C_below HR258.out HB.out) n_)); have hcv98m := hcv98; (try simp only [Int.toNat_natCast, List.length_take] at hcv98m)
               refine value_ (w1 := ?_) (v := ?_) (by rfl) rfl ?_ ?_
               rotate_left 2
               ·
                go_simp
                constructor
                ·
                 rfl
                ·
                 rfl
               clear hcv98 hcv98m
               refine hK.out _ _ trivial (fun hHeld => ?_)
               clear hK K
               refine norm_ (a' := ?_) ?_ ?_
               rotate_left
               ·
                show Act.put _ (some 72) _ = _
                simp only [Act.put, List.setIfInBounds_toArray, List.set_cons_zero, List.set_cons_succ, i64_w, i32_w]
                rfl
               refine one_ (i := 1) (N := some 67) (bb 12 127) rfl rfl (one_of HT_.out (by kernel_rfl)) (by decide) (fun K hK => ?_)
               have hcv99 := And.intro (own_string (P := Try.prog) Try.underlying23 Try.underlying5 Try.underlying9 (Kd.own_of_R HO_5.out)) (fun n_ : Nat => own_string (P := Try.prog) Try.underlying23 Try.underlying5 Try.underlying9 (Kd.own_of_R (Kd.R_drewN HO_5.out n_)))
               refine value_ (w1 := ?_) (v := ?_) (by rfl) rfl ?_ ?_
               rotate_left 2
               ·
                go_simp
                constructor
                ·
                 rfl
                ·
                 rfl
               clear hcv99
               refine hK.out _ _ trivial (fun hHeld => ?_)
               clear hK K
               refine norm_ (a' := ?_) ?_ ?_
               rotate_left
               ·
                show Act.put _ (some 67) _ = _
                simp only [Act.put, List.setIfInBounds_toArray, List.set_cons_zero, List.set_cons_succ, i64_w, i32_w]
                rfl
               exact norm_ (by simp only [putAll, Act.put, List.setIfInBounds_toArray, List.set_cons_zero, List.set_cons_succ]) (hCont () _ ⟨(by (with_reducible repeat (first | apply Kd.R_alloc | apply Kd.R_drewN | apply Kd.R_drew)); exact Kd.R_mono HO_239009.out (fun _ hk => ⟨hk.2, hk.1⟩)), (by (with_reducible repeat (first | apply Kd.R_alloc | apply Kd.R_drewN | apply Kd.R_drew)); exact Kd.R_mono HO_239010.out (fun _ hk => ⟨hk.2, hk.1⟩)), (by (with_reducible repeat (first | apply Kd.R_alloc | apply Kd.R_drewN | apply Kd.R_drew)); exact HO_5.out), (by (with_reducible repeat (first | refine blk_drewN ?_ _ | refine blk_drew ?_ | refine blk_alloc ?_ _)); exact BK238.out), (by repeat (first | (with_reducible first | exact HB.out | apply below_alloc | apply pw_below_drewN | apply below_drew1 | refine below_set ?_ GE238.out) | exact HB.out))⟩)
             rintro _ w100 ⟨h0_, h1_, h2_, h3_, h4_⟩
             have n0_ : Aside0 (Kd.R (Kd.int .u8) 5 w100 w.heap.size (fun k_ => some k_ ≠ (.slice Ao14 t234.length co14 : Value).ownBlock ∧ some k_ ≠ (.slice Ao96 t241.length co96 : Value).ownBlock) (.slice Ao13 t231.length co13) t231) := ⟨h0_⟩
             have n1_ : Aside0 (Kd.R (Kd.int .u8) 5 w100 w.heap.size (fun k_ => some k_ ≠ (.slice Ao13 t231.length co13 : Value).ownBlock ∧ some k_ ≠ (.slice Ao96 t241.length co96 : Value).ownBlock) (.slice Ao14 t234.length co14) t234) := ⟨h1_⟩
             have n2_ : Aside0 (Kd.R (Kd.int .u8) 5 w100 w.heap.size (fun k_ => some k_ ≠ (.slice Ao13 t231.length co13 : Value).ownBlock ∧ some k_ ≠ (.slice Ao14 t234.length co14 : Value).ownBlock) (.slice Ao96 t241.length co96) t241) := ⟨h2_⟩
             have n3_ : Aside0 (w100.heap[gb238]? = some (.cells #[.int .u8 t222, .int .u16 t223, .bool t224, .bool t225, .int .i64 t226, .int .u8 t227, .int .u8 t228, .int .u32 t229, .int .u32 t230, .slice Ao13 t231.length co13, .slice Ao14 t234.length co14] 37 (0, 0))) := ⟨h3_⟩
             have n4_ : Aside0 (Below w.heap.size w w100) := ⟨h4_⟩
             clear HO_5
             clear HO_239009
             clear HO_239010
             clear BK238
             clear HB
             clear h0_ h1_ h2_ h3_ h4_
             have HO_239009 := n0_
             have HO_239010 := n1_
             have HO_5 := n2_
             have BK238 := n3_
             have HB := n4_
             clear n0_ n1_ n2_ n3_ n4_
             have hHeld := trivial
             refine norm_ (a' := ?_) ?_ ?_
             rotate_left
             ·
              simp only [putAll, Act.put, List.setIfInBounds_toArray, List.set_cons_zero, List.set_cons_succ]
              rfl
             refine pure_ (i := 7) (N := some 73) (v := ?_) (a' := ?_) (bb 12 255) rfl rfl (any_of HT_.out (by kernel_rfl)) (fun _ _ _ h => h) (Or.inl ⟨by rfl, ?_⟩) ?_ ?_
             rotate_left
             ·
              intro w'
              go_simp
              with_reducible rfl
             rotate_left
             ·
              simp only [Act.put, List.setIfInBounds_toArray, List.set_cons_zero, List.set_cons_succ, i64_w, i32_w]
              rfl
             refine pure_ (i := 8) (N := some 74) (v := ?_) (a' := ?_) (bb 12 511) rfl rfl (any_of HT_.out (by kernel_rfl)) (fun _ _ _ h => h) (Or.inl ⟨by rfl, ?_⟩) ?_ ?_
             rotate_left
             ·
              intro w'
              go_simp
              with_reducible rfl
             rotate_left
             ·
              simp only [Act.put, List.setIfInBounds_toArray, List.set_cons_zero, List.set_cons_succ, i64_w, i32_w]
              rfl
             refine one_ (i := 9) (N := some 75) (bb 12 1023) rfl rfl (one_of HT_.out (by kernel_rfl)) (by decide) (fun K hK => ?_)
             refine goes_ Try.func22 (by kernel_rfl) rfl #[] (by rfl) rfl rfl (by (try simp only [List.map_toArray, List.map_cons, List.map_nil]); first | done | rfl | (simp only [List.length_drop, List.length_take]; rfl) | (go_simp; done) | (go_simp; omega)) ?_
             with_reducible refine (towropelaw06_live.calls kj8  t259 _ A94.out).mono ?_
             rintro e w101 ⟨rfl, hb⟩
             refine ⟨_, rfl, ?_⟩
             have n0_ := Aside0.mk (Kd.R_below (by (with_reducible repeat (first | apply Kd.R_alloc | apply Kd.R_drewN | apply Kd.R_drew)); exact HO_5.out) hb)
             have n1_ := Aside0.mk (Kd.R_below (by (with_reducible repeat (first | apply Kd.R_alloc | apply Kd.R_drewN | apply Kd.R_drew)); exact HO_239009.out) hb)
             have n2_ := Aside0.mk (Kd.R_below (by (with_reducible repeat (first | apply Kd.R_alloc | apply Kd.R_drewN | apply Kd.R_drew)); exact HO_239010.out) hb)
             have n3_ := Aside0.mk (blk_below (g := gb238) (o := .cells #[.int .u8 t222, .int .u16 t223, .bool t224, .bool t225, .int .i64 t226, .int .u8 t227, .int .u8 t228, .int .u32 t229, .int .u32 t230, .slice Ao13 t231.length co13, .slice Ao14 t234.length co14] 37 (0, 0)) (by (with_reducible repeat (first | refine blk_drewN ?_ _ | refine blk_drew ?_ | refine blk_alloc ?_ _)); exact BK238.out) hb)
             have n4_ := Aside0.mk (below_step (by repeat (first | (with_reducible first | exact HB.out | apply below_alloc | apply pw_below_drewN | apply below_drew1 | refine below_set ?_ GE238.out) | exact HB.out)) hb)
             clear HO_5
             clear HO_239009
             clear HO_239010
             clear BK238
             clear HB
             have HO_5 := n0_
             have HO_239009 := n1_
             have HO_239010 := n2_
             have BK238 := n3_
             have HB := n4_
             clear n0_ n1_ n2_ n3_ n4_
             (try clear hb)
             (try clear hb2)
             (try clear hk)
             (try clear hi)
             refine hK.out _ _ trivial (fun hHeld => ?_)
             clear hK K
             refine norm_ (a' := ?_) ?_ ?_
             rotate_left
             ·
              show Act.put _ (some 75) _ = _
              simp only [Act.put, List.setIfInBounds_toArray, List.set_cons_zero, List.set_cons_succ, i64_w, i32_w]
              rfl
             refine pure_ (i := 10) (N := some 76) (v := ?_) (a' := ?_) (bb 12 2047) rfl rfl (any_of HT_.out (by kernel_rfl)) (fun _ _ _ h => h) (Or.inl ⟨by rfl, ?_⟩) ?_ ?_
             rotate_left
             ·
              intro w'
              go_simp
              with_reducible rfl
             rotate_left
             ·
              simp only [Act.put, List.setIfInBounds_toArray, List.set_cons_zero, List.set_cons_succ, i64_w, i32_w]
              rfl
             refine pure_ (i := 11) (N := some 2) (v := ?_) (a' := ?_) (bb 12 4095) rfl rfl (any_of HT_.out (by kernel_rfl)) (fun _ _ _ h => h) (Or.inl ⟨by rfl, ?_⟩) ?_ ?_
             rotate_left
             ·
              intro w'
              go_simp
              with_reducible rfl
             rotate_left
             ·
              simp only [Act.put, List.setIfInBounds_toArray, List.set_cons_zero, List.set_cons_succ, i64_w, i32_w]
              rfl
             refine done_ (done_of HT_.out (by kernel_rfl)) ?_
             try go_wp2
             go_ret
             exact ⟨by first | rfl | (simp [errW_none, errW_some] <;> rfl) | (simp [*, errW_none, errW_some] <;> rfl), by repeat (first | (with_reducible first | exact HB.out | apply below_alloc | apply pw_below_drewN | apply below_drew1 | refine below_set ?_ GE238.out) | exact HB.out)⟩
            ·
             rw [if_neg c93] at H
             have c93b0 : ((strOfNums t241).toList == (strOfNums (l0.take t241.length)).toList) = false := beq_eq_false_iff_ne.mpr c93
             have c93b1 : ((strOfNums t241).toList != (strOfNums (l0.take t241.length)).toList) = true := bne_iff_ne.mpr c93
             exact absurd ((Option.some.inj H).trans HRT.out) (by decide)
           ·
            rw [if_neg c92] at H
            exact absurd H (by simp)
          ·
           rw [if_neg c91] at H
           exact absurd H (by simp)
        ·
         rw [if_neg c24] at H
         exact absurd H (by simp)
       ·
        rw [if_neg c23] at H
        have c23b0 : ((rd l0 10) == 255) = false := beq_eq_false_iff_ne.mpr c23
        have c23b1 : ((rd l0 10) != 255) = true := bne_iff_ne.mpr c23
        by_cases c108 : 0 ≤ (t241.length : Int)
        ·
         rw [if_pos c108] at H
         have c108b0 := eq_true c108
         have c108b1 : decide (0 ≤ (t241.length : Int)) = true := decide_eq_true c108
         clear c108
         by_cases c109 : (t241.length : Int) ≤ (l0.length : Int)
         ·
          rw [if_pos c109] at H
          have c109b0 := eq_true c109
          have c109b1 : decide ((t241.length : Int) ≤ (l0.length : Int)) = true := decide_eq_true c109
          clear c109
          by_cases c110 : (strOfNums t241).toList = (strOfNums (l0.take t241.length)).toList
          ·
           rw [if_pos c110] at H
           have c110b0 : ((strOfNums t241).toList == (strOfNums (l0.take t241.length)).toList) = true := beq_iff_eq.mpr c110
           have c110b1 : ((strOfNums t241).toList != (strOfNums (l0.take t241.length)).toList) = false := bne_eq_false_iff_eq.mpr c110
           clear c110
           replace H := Option.bind_eq_some_iff.mp H
           obtain ⟨t261, A1110, H⟩ := H
           replace H : (some t261) = some r := H
           have A111 := Aside0.mk A1110
           clear A1110
           obtain rfl := Option.some.inj H
           have p246 : 0 ≤ (10 : Int) := (by omega)
           have q246 : 10 < (l0.length : Int) := of_decide_eq_true (by first | (with_reducible assumption) | assumption)
           obtain ⟨ad246, e246, hx246_0⟩ := Kd.at_int HR0.out 10 p246 q246
           cases e246
           (try simp only [show (10 : Int).toNat = 10 from rfl, Nat.reduceMul, Nat.reduceEqDiff, Go.Addr.add, ↓reduceIte] at hx246_0)
           have qi246 : (10 < l0.length) = True := eq_true (by omega)
           (try rw [show ((10 : Int)).toNat = 10 from rfl] at hx246_0)
           replace hx246_0 := (HB.out.cell (World.block_lt_of_cell? w _ hx246_0)).trans hx246_0
           replace p246 := eq_true p246
           replace q246 := eq_true q246
           try go_wp2
           have n0_ := Aside0.mk (Kd.R_drew HO_5.out)
           have n1_ := Aside0.mk (Kd.R_drew HO_239009.out)
           have n2_ := Aside0.mk (Kd.R_drew HO_239010.out)
           have n3_ := Aside0.mk (blk_drew BK238.out)
           have n4_ := Aside0.mk (below_drew1 HB.out)
           clear HO_5
           clear HO_239009
           clear HO_239010
           clear BK238
           clear HB
           have HO_5 := n0_
           have HO_239009 := n1_
           have HO_239010 := n2_
           have BK238 := n3_
           have HB := n4_
           clear n0_ n1_ n2_ n3_ n4_
           obtain ⟨Ao113, co113, eo113⟩ := Kd.R_slice HO_5.out
           (first | subst eo113 | (injection eo113 with f1_ f2_ f3_; have f4_ := f1_.symm; have f5_ := f3_.symm; clear f1_ f2_ f3_; subst f4_; subst f5_))
           obtain ⟨i0114, hi0114, _, hsz114, _⟩ := info_parts info5
           obtain ⟨hcut114, hA114, hC114⟩ := print_take_of (P := Try.prog) (Value.int .u8) 0 23 5 .i64 Try.underlying23 hi0114 hsz114 (some ad246) c0 l0 (t241.length : Int) (of_decide_eq_true (by first | (with_reducible assumption) | assumption)) (of_decide_eq_true (by first | (with_reducible assumption) | assumption)) HC0.out
           have HR260 := Aside0.mk (Kd.C_of_reads (h1 := fun _ => rfl) (hA114 _ (Kd.reads_of_C HR0.out)))
           have HC260 := Aside0.mk hC114
           clear hA114 hC114 hi0114 hsz114
           refine start_ (n := 12) (S := fun w' => True) (ds := []) (bb 12 0) (by kernel_rfl) rfl rfl trivial (fun hHeld => ?_); refine with_tabW towropelaw06_IpBack.tab11 towropelaw06_IpBack.bits11 (fun HT_ HW_ => ?_)
           generalize wc.drew = w112 at HO_5 HO_239009 HO_239010 BK238 HB HR260 hHeld ⊢
           refine pure_ (i := 0) (N := some 66) (v := ?_) (a' := ?_) (bb 12 1) rfl rfl (any_of HT_.out (by kernel_rfl)) (fun _ _ _ h => h) (Or.inl ⟨by rfl, ?_⟩) ?_ ?_
           rotate_left
           ·
            intro w'
            go_simp
            with_reducible rfl
           rotate_left
           ·
            simp only [Act.put, List.setIfInBounds_toArray, List.set_cons_zero, List.set_cons_succ, i64_w, i32_w]
            rfl
           refine pure_ (i := 2) (N := some 68) (v := ?_) (a' := ?_) (bb 12 5) rfl rfl (any_of HT_.out (by kernel_rfl)) (fun _ _ _ h => h) (Or.inl ⟨by rfl, ?_⟩) ?_ ?_
           rotate_left
           ·
            intro w'
            go_simp
            with_reducible rfl
           rotate_left
           ·
            simp only [Act.put, List.setIfInBounds_toArray, List.set_cons_zero, List.set_cons_succ, i64_w, i32_w]
            rfl
           refine pure_ (i := 3) (N := some 69) (v := ?_) (a' := ?_) (bb 12 13) rfl rfl (any_of HT_.out (by kernel_rfl)) (fun _ _ _ h => h) (Or.inl ⟨by rfl, ?_⟩) ?_ ?_
           rotate_left
           ·
            intro w'
            go_simp
            with_reducible rfl
           rotate_left
           ·
            simp only [Act.put, List.setIfInBounds_toArray, List.set_cons_zero, List.set_cons_succ, i64_w, i32_w]
            rfl
           refine pure_ (i := 4) (N := some 70) (v := ?_) (a' := ?_) (bb 12 29) rfl rfl (any_of HT_.out (by kernel_rfl)) (fun _ _ _ h => h) (Or.inl ⟨by rfl, ?_⟩) ?_ ?_
           rotate_left
           ·
            intro w'
            go_simp
            with_reducible rfl
           rotate_left
           ·
            simp only [Act.put, List.setIfInBounds_toArray, List.set_cons_zero, List.set_cons_succ, i64_w, i32_w]
            rfl
           refine pure_ (i := 5) (N := some 71) (v := ?_) (a' := ?_) (bb 12 61) rfl rfl (any_of HT_.out (by kernel_rfl)) (fun _ _ _ h => h) (Or.inl ⟨by rfl, ?_⟩) ?_ ?_
           rotate_left
           ·
            intro w'
            go_simp
            with_reducible rfl
           rotate_left
           ·
            simp only [Act.put, List.setIfInBounds_toArray, List.set_cons_zero, List.set_cons_succ, i64_w, i32_w]
            rfl
           refine join_ (σ := Unit) 5 (bb 12 127) (fun s_ => [(67, .string (strOfNums t241)), (72, .string (strOfNums (l0.take t241.length)))]) (fun s_ w' => (Kd.R (Kd.int .u8) 5 w' w.heap.size (fun k_ => some k_ ≠ (.slice Ao14 t234.length co14 : Value).ownBlock ∧ some k_ ≠ (.slice Ao113 t241.length co113 : Value).ownBlock) (.slice Ao13 t231.length co13) t231) ∧ (Kd.R (Kd.int .u8) 5 w' w.heap.size (fun k_ => some k_ ≠ (.slice Ao13 t231.length co13 : Value).ownBlock ∧ some k_ ≠ (.slice Ao113 t241.length co113 : Value).ownBlock) (.slice Ao14 t234.length co14) t234) ∧ (Kd.R (Kd.int .u8) 5 w' w.heap.size (fun k_ => some k_ ≠ (.slice Ao13 t231.length co13 : Value).ownBlock ∧ some k_ ≠ (.slice Ao14 t234.length co14 : Value).ownBlock) (.slice Ao113 t241.length co113) t241) ∧ (w'.heap[gb238]? = some (.cells #[.int .u8 t222, .int .u16 t223, .bool t224, .bool t225, .int .i64 t226, .int .u8 t227, .int .u8 t228, .int .u32 t229, .int .u32 t230, .slice Ao13 t231.length co13, .slice Ao14 t234.length co14] 37 (0, 0))) ∧ (Below w.heap.size w w')) ?_ ?_
           rotate_left
           ·
            intro hCont
            refine two_ (i := 1) (j := 6) (Ni := some 67) (Nj := some 72) (bb 12 63) (bb 12 125) rfl rfl rfl rfl (two_of HT_.out (by kernel_rfl)) (by decide) (by decide) (fun K hK => ?_) (fun K hK => ?_)
            ·
             skip
             have hcv115 := And.intro (own_string (P := Try.prog) Try.underlying23 Try.underlying5 Try.underlying9 (Kd.own_of_R HO_5.out)) (fun n_ : Nat => own_string (P := Try.prog) Try.underlying23 Try.underlying5 Try.underlying9 (Kd.own_of_R (Kd.R_drewN HO_5.out n_)))
             refine value_ (w1 := ?_) (v := ?_) (by rfl) rfl ?_ ?_
             rotate_left 2
             ·
              go_simp
              constructor
              ·
               rfl
              ·
               rfl
             clear hcv115
             refine hK.out _ _ trivial (fun hHeld => ?_)
             clear hK K
             refine norm_ (a' := ?_) ?_ ?_
             rotate_left
             ·
              show Act.put _ (some 67) _ = _
              simp only [Act.put, List.setIfInBounds_toArray, List.set_cons_zero, List.set_cons_succ, i64_w, i32_w]
              rfl
             refine one_ (i := 6) (N := some 72) (bb 12 127) rfl rfl (one_of HT_.out (by kernel_rfl)) (by decide) (fun K hK => ?_)
             have hcv116 := And.intro (Kd.C_string (P := Try.prog) (A := (some ad246)) (c := c0) Try.underlying23 Try.underlying5 Try.underlying9 (Kd.C_below HR260.out HB.out)) (fun n_ : Nat => Kd.C_string (P := Try.prog) (A := (some ad246)) (c := c0) Try.underlying23 Try.underlying5 Try.underlying9 (Kd.C_drewN (Kd.C_below HR260.out HB.out) n_)); have hcv116m := hcv116; (try simp only [Int.toNat_natCast, List.length_take] at hcv116m)
             refine value_ (w1 := ?_) (v := ?_) (by rfl) rfl ?_ ?_
             rotate_left 2
             ·
              go_simp
              constructor
              ·
               rfl
              ·
               rfl
             clear hcv116 hcv116m
             refine hK.out _ _ trivial (fun hHeld => ?_)
             clear hK K
             refine norm_ (a' := ?_) ?_ ?_
             rotate_left
             ·
              show Act.put _ (some 72) _ = _
              simp only [Act.put, List.setIfInBounds_toArray, List.set_cons_zero, List.set_cons_succ, i64_w, i32_w]
              rfl
             exact norm_ (by simp only [putAll, Act.put, List.setIfInBounds_toArray, List.set_cons_zero, List.set_cons_succ]) (hCont () _ ⟨(by (with_reducible repeat (first | apply Kd.R_alloc | apply Kd.R_drewN | apply Kd.R_drew)); exact Kd.R_mono HO_239009.out (fun _ hk => ⟨hk.2, hk.1⟩)), (by (with_reducible repeat (first | apply Kd.R_alloc | apply Kd.R_drewN | apply Kd.R_drew)); exact Kd.R_mono HO_239010.out (fun _ hk => ⟨hk.2, hk.1⟩)), (by (with_reducible repeat (first | apply Kd.R_alloc | apply Kd.R_drewN | apply Kd.R_drew)); exact HO_5.out), (by (with_reducible repeat (first | refine blk_drewN ?_ _ | refine blk_drew ?_ | refine blk_alloc ?_ _)); exact BK238.out), (by repeat (first | (with_reducible first | exact HB.out | apply below_alloc | apply pw_below_drewN | apply below_drew1 | refine below_set ?_ GE238.out) | exact HB.out))⟩)
            ·
             skip
             have hcv115 := And.intro (Kd.C_string (P := Try.prog) (A := (some ad246)) (c := c0) Try.underlying23 Try.underlying5 Try.underlying9 (Kd.C_below HR260.out HB.out)) (fun n_ : Nat => Kd.C_string (P := Try.prog) (A := (some ad246)) (c := c0) Try.underlying23 Try.underlying5 Try.underlying9 (Kd.C_drewN (Kd.C_below HR260.out HB.out) n_)); have hcv115m := hcv115; (try simp only [Int.toNat_natCast, List.length_take] at hcv115m)
             refine value_ (w1 := ?_) (v := ?_) (by rfl) rfl ?_ ?_
             rotate_left 2
             ·
              go_simp
              constructor
              ·
               rfl
              ·
               rfl
             clear hcv115 hcv115m
             refine hK.out _ _ trivial (fun hHeld => ?_)
             clear hK K
             refine norm_ (a' := ?_) ?_ ?_
             rotate_left
             ·
              show Act.put _ (some 72) _ = _
              simp only [Act.put, List.setIfInBounds_toArray, List.set_cons_zero, List.set_cons_succ, i64_w, i32_w]
              rfl
             refine one_ (i := 1) (N := some 67) (bb 12 127) rfl rfl (one_of HT_.out (by kernel_rfl)) (by decide) (fun K hK => ?_)
             have hcv116 := And.intro (own_string (P := Try.prog) Try.underlying23 Try.underlying5 Try.underlying9 (Kd.own_of_R HO_5.out)) (fun n_ : Nat => own_string (P := Try.prog) Try.underlying23 Try.underlying5 Try.underlying9 (Kd.own_of_R (Kd.R_drewN HO_5.out n_)))
             refine value_ (w1 := ?_) (v := ?_) (by rfl) rfl ?_ ?_
             rotate_left 2
             ·
              go_simp
              constructor
              ·
               rfl
              ·
               rfl
             clear hcv116
             refine hK.out _ _ trivial (fun hHeld => ?_)
             clear hK K
             refine norm_ (a' := ?_) ?_ ?_
             rotate_left
             ·
              show Act.put _ (some 67) _ = _
              simp only [Act.put, List.setIfInBounds_toArray, List.set_cons_zero, List.set_cons_succ, i64_w, i32_w]
              rfl
             exact norm_ (by simp only [putAll, Act.put, List.setIfInBounds_toArray, List.set_cons_zero, List.set_cons_succ]) (hCont () _ ⟨(by (with_reducible repeat (first | apply Kd.R_alloc | apply Kd.R_drewN | apply Kd.R_drew)); exact Kd.R_mono HO_239009.out (fun _ hk => ⟨hk.2, hk.1⟩)), (by (with_reducible repeat (first | apply Kd.R_alloc | apply Kd.R_drewN | apply Kd.R_drew)); exact Kd.R_mono HO_239010.out (fun _ hk => ⟨hk.2, hk.1⟩)), (by (with_reducible repeat (first | apply Kd.R_alloc | apply Kd.R_drewN | apply Kd.R_drew)); exact HO_5.out), (by (with_reducible repeat (first | refine blk_drewN ?_ _ | refine blk_drew ?_ | refine blk_alloc ?_ _)); exact BK238.out), (by repeat (first | (with_reducible first | exact HB.out | apply below_alloc | apply pw_below_drewN | apply below_drew1 | refine below_set ?_ GE238.out) | exact HB.out))⟩)
           rintro _ w117 ⟨h0_, h1_, h2_, h3_, h4_⟩
           have n0_ : Aside0 (Kd.R (Kd.int .u8) 5 w117 w.heap.size (fun k_ => some k_ ≠ (.slice Ao14 t234.length co14 : Value).ownBlock ∧ some k_ ≠ (.slice Ao113 t241.length co113 : Value).ownBlock) (.slice Ao13 t231.length co13) t231) := ⟨h0_⟩
           have n1_ : Aside0 (Kd.R (Kd.int .u8) 5 w117 w.heap.size (fun k_ => some k_ ≠ (.slice Ao13 t231.length co13 : Value).ownBlock ∧ some k_ ≠ (.slice Ao113 t241.length co113 : Value).ownBlock) (.slice Ao14 t234.length co14) t234) := ⟨h1_⟩
           have n2_ : Aside0 (Kd.R (Kd.int .u8) 5 w117 w.heap.size (fun k_ => some k_ ≠ (.slice Ao13 t231.length co13 : Value).ownBlock ∧ some k_ ≠ (.slice Ao14 t234.length co14 : Value).ownBlock) (.slice Ao113 t241.length co113) t241) := ⟨h2_⟩
           have n3_ : Aside0 (w117.heap[gb238]? = some (.cells #[.int .u8 t222, .int .u16 t223, .bool t224, .bool t225, .int .i64 t226, .int .u8 t227, .int .u8 t228, .int .u32 t229, .int .u32 t230, .slice Ao13 t231.length co13, .slice Ao14 t234.length co14] 37 (0, 0))) := ⟨h3_⟩
           have n4_ : Aside0 (Below w.heap.size w w117) := ⟨h4_⟩
           clear HO_5
           clear HO_239009
           clear HO_239010
           clear BK238
           clear HB
           clear h0_ h1_ h2_ h3_ h4_
           have HO_239009 := n0_
           have HO_239010 := n1_
           have HO_5 := n2_
           have BK238 := n3_
           have HB := n4_
           clear n0_ n1_ n2_ n3_ n4_
           have hHeld := trivial
           refine norm_ (a' := ?_) ?_ ?_
           rotate_left
           ·
            simp only [putAll, Act.put, List.setIfInBounds_toArray, List.set_cons_zero, List.set_cons_succ]
            rfl
           refine pure_ (i := 7) (N := some 73) (v := ?_) (a' := ?_) (bb 12 255) rfl rfl (any_of HT_.out (by kernel_rfl)) (fun _ _ _ h => h) (Or.inl ⟨by rfl, ?_⟩) ?_ ?_
           rotate_left
           ·
            intro w'
            go_simp
            with_reducible rfl
           rotate_left
           ·
            simp only [Act.put, List.setIfInBounds_toArray, List.set_cons_zero, List.set_cons_succ, i64_w, i32_w]
            rfl
           refine pure_ (i := 8) (N := some 74) (v := ?_) (a' := ?_) (bb 12 511) rfl rfl (any_of HT_.out (by kernel_rfl)) (fun _ _ _ h => h) (Or.inl ⟨by rfl, ?_⟩) ?_ ?_
           rotate_left
           ·
            intro w'
            go_simp
            with_reducible rfl
           rotate_left
           ·
            simp only [Act.put, List.setIfInBounds_toArray, List.set_cons_zero, List.set_cons_succ, i64_w, i32_w]
            rfl
           refine one_ (i := 9) (N := some 75) (bb 12 1023) rfl rfl (one_of HT_.out (by kernel_rfl)) (by decide) (fun K hK => ?_)
           refine goes_ Try.func22 (by kernel_rfl) rfl #[] (by rfl) rfl rfl (by (try simp only [List.map_toArray, List.map_cons, List.map_nil]); first | done | rfl | (simp only [List.length_drop, List.length_take]; rfl) | (go_simp; done) | (go_simp; omega)) ?_
           with_reducible refine (towropelaw06_live.calls kj8  t261 _ A111.out).mono ?_
           rintro e w118 ⟨rfl, hb⟩
           refine ⟨_, rfl, ?_⟩
           have n0_ := Aside0.mk (Kd.R_below (by (with_reducible repeat (first | apply Kd.R_alloc | apply Kd.R_drewN | apply Kd.R_drew)); exact HO_5.out) hb)
           have n1_ := Aside0.mk (Kd.R_below (by (with_reducible repeat (first | apply Kd.R_alloc | apply Kd.R_drewN | apply Kd.R_drew)); exact HO_239009.out) hb)
           have n2_ := Aside0.mk (Kd.R_below (by (with_reducible repeat (first | apply Kd.R_alloc | apply Kd.R_drewN | apply Kd.R_drew)); exact HO_239010.out) hb)
           have n3_ := Aside0.mk (blk_below (g := gb238) (o := .cells #[.int .u8 t222, .int .u16 t223, .bool t224, .bool t225, .int .i64 t226, .int .u8 t227, .int .u8 t228, .int .u32 t229, .int .u32 t230, .slice Ao13 t231.length co13, .slice Ao14 t234.length co14] 37 (0, 0)) (by (with_reducible repeat (first | refine blk_drewN ?_ _ | refine blk_drew ?_ | refine blk_alloc ?_ _)); exact BK238.out) hb)
           have n4_ := Aside0.mk (below_step (by repeat (first | (with_reducible first | exact HB.out | apply below_alloc | apply pw_below_drewN | apply below_drew1 | refine below_set ?_ GE238.out) | exact HB.out)) hb)
           clear HO_5
           clear HO_239009
           clear HO_239010
           clear BK238
           clear HB
           have HO_5 := n0_
           have HO_239009 := n1_
           have HO_239010 := n2_
           have BK238 := n3_
           have HB := n4_
           clear n0_ n1_ n2_ n3_ n4_
           (try clear hb)
           (try clear hb2)
           (try clear hk)
           (try clear hi)
           refine hK.out _ _ trivial (fun hHeld => ?_)
           clear hK K
           refine norm_ (a' := ?_) ?_ ?_
           rotate_left
           ·
            show Act.put _ (some 75) _ = _
            simp only [Act.put, List.setIfInBounds_toArray, List.set_cons_zero, List.set_cons_succ, i64_w, i32_w]
            rfl
           refine pure_ (i := 10) (N := some 76) (v := ?_) (a' := ?_) (bb 12 2047) rfl rfl (any_of HT_.out (by kernel_rfl)) (fun _ _ _ h => h) (Or.inl ⟨by rfl, ?_⟩) ?_ ?_
           rotate_left
           ·
            intro w'
            go_simp
            with_reducible rfl
           rotate_left
           ·
            simp only [Act.put, List.setIfInBounds_toArray, List.set_cons_zero, List.set_cons_succ, i64_w, i32_w]
            rfl
           refine pure_ (i := 11) (N := some 2) (v := ?_) (a' := ?_) (bb 12 4095) rfl rfl (any_of HT_.out (by kernel_rfl)) (fun _ _ _ h => h) (Or.inl ⟨by rfl, ?_⟩) ?_ ?_
           rotate_left
           ·
            intro w'
            go_simp
            with_reducible rfl
           rotate_left
           ·
            simp only [Act.put, List.setIfInBounds_toArray, List.set_cons_zero, List.set_cons_succ, i64_w, i32_w]
            rfl
           refine done_ (done_of HT_.out (by kernel_rfl)) ?_
           try go_wp2
           go_ret
           exact ⟨by first | rfl | (simp [errW_none, errW_some] <;> rfl) | (simp [*, errW_none, errW_some] <;> rfl), by repeat (first | (with_reducible first | exact HB.out | apply below_alloc | apply pw_below_drewN | apply below_drew1 | refine below_set ?_ GE238.out) | exact HB.out)⟩
          ·
           rw [if_neg c110] at H
           have c110b0 : ((strOfNums t241).toList == (strOfNums (l0.take t241.length)).toList) = false := beq_eq_false_iff_ne.mpr c110
           have c110b1 : ((strOfNums t241).toList != (strOfNums (l0.take t241.length)).toList) = true := bne_iff_ne.mpr c110
           exact absurd ((Option.some.inj H).trans HRT.out) (by decide)
         ·
          rw [if_neg c109] at H
          exact absurd H (by simp)
        ·
         rw [if_neg c108] at H
         exact absurd H (by simp)
      ·
       rw [if_neg c22] at H
       exact absurd H (by simp)
  ·
   rw [if_neg c7] at H
   have c7b0 : (t239 == 0) = false := beq_eq_false_iff_ne.mpr c7
   have c7b1 : (t239 != 0) = true := bne_iff_ne.mpr c7
   replace H := Option.bind_eq_some_iff.mp H
   obtain ⟨t240, A1250, H⟩ := H
   replace H : (some t240) = some r := H
   have A125 := Aside0.mk A1250
   clear A1250
   obtain rfl := Option.some.inj H
   go_enter Try.func11, Try.ntmps11
   go_wp2_with (first | ((with_reducible refine gate_callee (f := 36) rfl ?_); refine goesL_ (some 13) rfl rfl Try.func36 (by kernel_rfl) rfl #[.slice A0 l0.length c0] rfl (by (try simp only [List.map_toArray, List.map_cons, List.map_nil]); first | done | rfl | (simp only [List.length_drop, List.length_take]; rfl) | (go_simp; done) | (go_simp; omega)) ?_; (with_reducible refine (ip_Get.calls k _ _ l0 t222 t223 t224 t225 t226 t227 t228 t229 t230 t231 t234 t237 _ ?side1 ?side2 A5.out).mono ?_); (case side1 => repeat (first | exact HR0.out | (with_reducible refine Kd.C_alloc ?_ _) | (with_reducible refine Kd.C_drewN ?_ _) | (with_reducible refine Kd.C_drew ?_))); (case side2 => exact HC0.out); rintro e w126 ⟨v232, v235, rfl, ho0, ho1, hb⟩; refine ⟨_, rfl, ?_⟩; have n0_ := Aside0.mk (Kd.R_lower ho0 (below_size (by repeat (first | (with_reducible first | exact HB.out | apply below_alloc | apply pw_below_drewN | apply below_drew1) | exact HB.out)))); have n1_ := Aside0.mk (Kd.R_lower ho1 (below_size (by repeat (first | (with_reducible first | exact HB.out | apply below_alloc | apply pw_below_drewN | apply below_drew1) | exact HB.out)))); have n2_ := Aside0.mk (below_step (by repeat (first | (with_reducible first | exact HB.out | apply below_alloc | apply pw_below_drewN | apply below_drew1) | exact HB.out)) hb); clear HB; have HO233 := n0_; have HO236 := n1_; have HB := n2_; clear n0_ n1_ n2_; (try clear hb); (try clear hb2); (try clear hk); (try clear hi); (try clear ho0); (try clear ho1)) | ((with_reducible refine gate_dst (N := 3) rfl ?_); (try (refine gate_guard (by rfl) ?_; dsimp only)); refine box_event ?hg (N := 3) ?hd (cs := #[.int .u8 0, .int .u16 0, .bool false, .bool false, .int .i64 0, .int .u8 0, .int .u8 0, .int .u32 0, .int .u32 0, .slice none 0 0, .slice none 0 0]) (t := 37) ?hr ?_; (case hd => rfl); (case hg => rfl); (case hr => first | (go_simp; done) | (go_simp; rfl)); intro gb238 hg w127 hbox hb; have n0_ := Aside0.mk (Kd.R_below (by (with_reducible repeat (first | apply Kd.R_alloc | apply Kd.R_drewN | apply Kd.R_drew)); exact HO233.out) hb); have n1_ := Aside0.mk (Kd.R_below (by (with_reducible repeat (first | apply Kd.R_alloc | apply Kd.R_drewN | apply Kd.R_drew)); exact HO236.out) hb); have n2_ := Aside0.mk (below_step (by repeat (first | (with_reducible first | exact HB.out | apply below_alloc | apply pw_below_drewN | apply below_drew1) | exact HB.out)) hb); have n3_ := Aside0.mk (hbox); have n4_ := Aside0.mk ((by rw [hg]; exact (below_size (by repeat (first | (with_reducible first | exact HB.out | apply below_alloc | apply pw_below_drewN | apply below_drew1) | exact HB.out))) : w.heap.size ≤ gb238)); have n5_ := Aside0.mk ((by rw [hg]; exact (below_size (by repeat (first | (with_reducible first | exact HB.out | apply below_alloc | apply pw_below_drewN | apply below_drew1) | exact HB.out))) : w.heap.size ≤ gb238)); clear HO233; clear HO236; clear HB; have HO233 := n0_; have HO236 := n1_; have HB := n2_; have BK238 := n3_; have GW238 := n4_; have GE238 := n5_; clear n0_ n1_ n2_ n3_ n4_ n5_; clear hb hbox hg; have hcz128_0 : w127.cell? ⟨gb238, 0, none⟩ = some (.int .u8 0) := (blk_cell BK238.out 0).trans rfl; have hcz128_1 : w127.cell? ⟨gb238, 1, none⟩ = some (.int .u16 0) := (blk_cell BK238.out 1).trans rfl; have hcz128_2 : w127.cell? ⟨gb238, 2, none⟩ = some (.bool false) := (blk_cell BK238.out 2).trans rfl; have hcz128_3 : w127.cell? ⟨gb238, 3, none⟩ = some (.bool false) := (blk_cell BK238.out 3).trans rfl; have hcz128_4 : w127.cell? ⟨gb238, 4, none⟩ = some (.int .i64 0) := (blk_cell BK238.out 4).trans rfl; have hcz128_5 : w127.cell? ⟨gb238, 5, none⟩ = some (.int .u8 0) := (blk_cell BK238.out 5).trans rfl; have hcz128_6 : w127.cell? ⟨gb238, 6, none⟩ = some (.int .u8 0) := (blk_cell BK238.out 6).trans rfl; have hcz128_7 : w127.cell? ⟨gb238, 7, none⟩ = some (.int .u32 0) := (blk_cell BK238.out 7).trans rfl; have hcz128_8 : w127.cell? ⟨gb238, 8, none⟩ = some (.int .u32 0) := (blk_cell BK238.out 8).trans rfl; have hcz128_9 : w127.cell? ⟨gb238, 9, none⟩ = some (.slice none 0 0) := (blk_cell BK238.out 9).trans rfl; have hcz128_10 : w127.cell? ⟨gb238, 10, none⟩ = some (.slice none 0 0) := (blk_cell BK238.out 10).trans rfl; have hfz128_0 := blk_frozen BK238.out 0; have hfz128_1 := blk_frozen BK238.out 1; have hfz128_2 := blk_frozen BK238.out 2; have hfz128_3 := blk_frozen BK238.out 3; have hfz128_4 := blk_frozen BK238.out 4; have hfz128_5 := blk_frozen BK238.out 5; have hfz128_6 := blk_frozen BK238.out 6; have hfz128_7 := blk_frozen BK238.out 7; have hfz128_8 := blk_frozen BK238.out 8; have hfz128_9 := blk_frozen BK238.out 9; have hfz128_10 := blk_frozen BK238.out 10; (try (obtain ⟨Ao129, co129, eo129⟩ := Kd.R_slice HO233.out; subst eo129)); (try (obtain ⟨Ao130, co130, eo130⟩ := Kd.R_slice HO236.out; subst eo130))) | ((with_reducible refine gate_callee (f := 38) rfl ?_); refine goesL_ (some 17) rfl rfl Try.func38 (by kernel_rfl) rfl #[.int .i64 t237] rfl (by (try simp only [List.map_toArray, List.map_cons, List.map_nil]); first | done | rfl | (simp only [List.length_drop, List.length_take]; rfl) | (go_simp; done) | (go_simp; omega)) ?_; (with_reducible refine (towropelaw06_code.calls t237 t239 _ A6.out).mono ?_); rintro e w' ⟨rfl, ⟨nd, rfl⟩⟩; refine ⟨_, rfl, ?_⟩) | ((with_reducible refine gate_callee (f := 22) rfl ?_); refine goesL_ (some 19) rfl rfl Try.func22 (by kernel_rfl) rfl #[] rfl (by (try simp only [List.map_toArray, List.map_cons, List.map_nil]); first | done | rfl | (simp only [List.length_drop, List.length_take]; rfl) | (go_simp; done) | (go_simp; omega)) ?_; (with_reducible refine (towropelaw06_live.calls k  t240 _ A125.out).mono ?_); rintro e w131 ⟨rfl, hb⟩; refine ⟨_, rfl, ?_⟩; have n0_ := Aside0.mk (Kd.R_below (by (with_reducible repeat (first | apply Kd.R_alloc | apply Kd.R_drewN | apply Kd.R_drew)); exact (Kd.R_mono (Kd.R_far (p := ⟨gb238, 10, none⟩) (Kd.R_far (p := ⟨gb238, 9, none⟩) (Kd.R_far (p := ⟨gb238, 8, none⟩) (Kd.R_far (p := ⟨gb238, 7, none⟩) (Kd.R_far (p := ⟨gb238, 6, none⟩) (Kd.R_far (p := ⟨gb238, 5, none⟩) (Kd.R_far (p := ⟨gb238, 4, none⟩) (Kd.R_far (p := ⟨gb238, 3, none⟩) (Kd.R_far (p := ⟨gb238, 2, none⟩) (Kd.R_far (p := ⟨gb238, 1, none⟩) (Kd.R_far (p := ⟨gb238, 0, none⟩) (Kd.R_types HO233.out BK238.out (by decide)) (fun _ hk => hk.2) (.int .u8 t222)) (fun _ hk => hk.2) (.int .u16 t223)) (fun _ hk => hk.2) (.bool t224)) (fun _ hk => hk.2) (.bool t225)) (fun _ hk => hk.2) (.int .i64 t226)) (fun _ hk => hk.2) (.int .u8 t227)) (fun _ hk => hk.2) (.int .u8 t228)) (fun _ hk => hk.2) (.int .u32 t229)) (fun _ hk => hk.2) (.int .u32 t230)) (fun _ hk => hk.2) (.slice Ao129 t231.length co129)) (fun _ hk => hk.2) (.slice Ao130 t234.length co130)) (fun _ h_ => h_.1))) hb); have n1_ := Aside0.mk (Kd.R_below (by (with_reducible repeat (first | apply Kd.R_alloc | apply Kd.R_drewN | apply Kd.R_drew)); exact (Kd.R_mono (Kd.R_far (p := ⟨gb238, 10, none⟩) (Kd.R_far (p := ⟨gb238, 9, none⟩) (Kd.R_far (p := ⟨gb238, 8, none⟩) (Kd.R_far (p := ⟨gb238, 7, none⟩) (Kd.R_far (p := ⟨gb238, 6, none⟩) (Kd.R_far (p := ⟨gb238, 5, none⟩) (Kd.R_far (p := ⟨gb238, 4, none⟩) (Kd.R_far (p := ⟨gb238, 3, none⟩) (Kd.R_far (p := ⟨gb238, 2, none⟩) (Kd.R_far (p := ⟨gb238, 1, none⟩) (Kd.R_far (p := ⟨gb238, 0, none⟩) (Kd.R_types HO236.out BK238.out (by decide)) (fun _ hk => hk.2) (.int .u8 t222)) (fun _ hk => hk.2) (.int .u16 t223)) (fun _ hk => hk.2) (.bool t224)) (fun _ hk => hk.2) (.bool t225)) (fun _ hk => hk.2) (.int .i64 t226)) (fun _ hk => hk.2) (.int .u8 t227)) (fun _ hk => hk.2) (.int .u8 t228)) (fun _ hk => hk.2) (.int .u32 t229)) (fun _ hk => hk.2) (.int .u32 t230)) (fun _ hk => hk.2) (.slice Ao129 t231.length co129)) (fun _ hk => hk.2) (.slice Ao130 t234.length co130)) (fun _ h_ => h_.1))) hb); have n2_ := Aside0.mk (blk_below (g := gb238) (o := .cells #[.int .u8 t222, .int .u16 t223, .bool t224, .bool t225, .int .i64 t226, .int .u8 t227, .int .u8 t228, .int .u32 t229, .int .u32 t230, .slice Ao129 t231.length co129, .slice Ao130 t234.length co130] 37 (0, 0)) (by (with_reducible repeat (first | refine blk_drewN ?_ _ | refine blk_drew ?_ | refine blk_alloc ?_ _)); refine blk_put (cs := #[.int .u8 t222, .int .u16 t223, .bool t224, .bool t225, .int .i64 t226, .int .u8 t227, .int .u8 t228, .int .u32 t229, .int .u32 t230, .slice Ao129 t231.length co129, .slice none 0 0]) ?_ 10 _ rfl; (with_reducible repeat (first | refine blk_drewN ?_ _ | refine blk_drew ?_ | refine blk_alloc ?_ _)); refine blk_put (cs := #[.int .u8 t222, .int .u16 t223, .bool t224, .bool t225, .int .i64 t226, .int .u8 t227, .int .u8 t228, .int .u32 t229, .int .u32 t230, .slice none 0 0, .slice none 0 0]) ?_ 9 _ rfl; (with_reducible repeat (first | refine blk_drewN ?_ _ | refine blk_drew ?_ | refine blk_alloc ?_ _)); refine blk_put (cs := #[.int .u8 t222, .int .u16 t223, .bool t224, .bool t225, .int .i64 t226, .int .u8 t227, .int .u8 t228, .int .u32 t229, .int .u32 0, .slice none 0 0, .slice none 0 0]) ?_ 8 _ rfl; (with_reducible repeat (first | refine blk_drewN ?_ _ | refine blk_drew ?_ | refine blk_alloc ?_ _)); refine blk_put (cs := #[.int .u8 t222, .int .u16 t223, .bool t224, .bool t225, .int .i64 t226, .int .u8 t227, .int .u8 t228, .int .u32 0, .int .u32 0, .slice none 0 0, .slice none 0 0]) ?_ 7 _ rfl; (with_reducible repeat (first | refine blk_drewN ?_ _ | refine blk_drew ?_ | refine blk_alloc ?_ _)); refine blk_put (cs := #[.int .u8 t222, .int .u16 t223, .bool t224, .bool t225, .int .i64 t226, .int .u8 t227, .int .u8 0, .int .u32 0, .int .u32 0, .slice none 0 0, .slice none 0 0]) ?_ 6 _ rfl; (with_reducible repeat (first | refine blk_drewN ?_ _ | refine blk_drew ?_ | refine blk_alloc ?_ _)); refine blk_put (cs := #[.int .u8 t222, .int .u16 t223, .bool t224, .bool t225, .int .i64 t226, .int .u8 0, .int .u8 0, .int .u32 0, .int .u32 0, .slice none 0 0, .slice none 0 0]) ?_ 5 _ rfl; (with_reducible repeat (first | refine blk_drewN ?_ _ | refine blk_drew ?_ | refine blk_alloc ?_ _)); refine blk_put (cs := #[.int .u8 t222, .int .u16 t223, .bool t224, .bool t225, .int .i64 0, .int .u8 0, .int .u8 0, .int .u32 0, .int .u32 0, .slice none 0 0, .slice none 0 0]) ?_ 4 _ rfl; (with_reducible repeat (first | refine blk_drewN ?_ _ | refine blk_drew ?_ | refine blk_alloc ?_ _)); refine blk_put (cs := #[.int .u8 t222, .int .u16 t223, .bool t224, .bool false, .int .i64 0, .int .u8 0, .int .u8 0, .int .u32 0, .int .u32 0, .slice none 0 0, .slice none 0 0]) ?_ 3 _ rfl; (with_reducible repeat (first | refine blk_drewN ?_ _ | refine blk_drew ?_ | refine blk_alloc ?_ _)); refine blk_put (cs := #[.int .u8 t222, .int .u16 t223, .bool false, .bool false, .int .i64 0, .int .u8 0, .int .u8 0, .int .u32 0, .int .u32 0, .slice none 0 0, .slice none 0 0]) ?_ 2 _ rfl; (with_reducible repeat (first | refine blk_drewN ?_ _ | refine blk_drew ?_ | refine blk_alloc ?_ _)); refine blk_put (cs := #[.int .u8 t222, .int .u16 0, .bool false, .bool false, .int .i64 0, .int .u8 0, .int .u8 0, .int .u32 0, .int .u32 0, .slice none 0 0, .slice none 0 0]) ?_ 1 _ rfl; (with_reducible repeat (first | refine blk_drewN ?_ _ | refine blk_drew ?_ | refine blk_alloc ?_ _)); refine blk_put (cs := #[.int .u8 0, .int .u16 0, .bool false, .bool false, .int .i64 0, .int .u8 0, .int .u8 0, .int .u32 0, .int .u32 0, .slice none 0 0, .slice none 0 0]) ?_ 0 _ rfl; (with_reducible repeat (first | refine blk_drewN ?_ _ | refine blk_drew ?_ | refine blk_alloc ?_ _)); exact BK238.out) hb); have n3_ := Aside0.mk (below_step (by repeat (first | (with_reducible first | exact HB.out | apply below_alloc | apply pw_below_drewN | apply below_drew1 | refine below_set ?_ GE238.out) | exact HB.out)) hb); clear HO233; clear HO236; clear BK238; clear HB; have HO233 := n0_; have HO236 := n1_; have BK238 := n2_; have HB := n3_; clear n0_ n1_ n2_ n3_; (try clear hb); (try clear hb2); (try clear hk); (try clear hi)))
   go_ret
   exact ⟨by first | rfl | (simp [errW_none, errW_some] <;> rfl) | (simp [*, errW_none, errW_some] <;> rfl), by repeat (first | (with_reducible first | exact HB.out | apply below_alloc | apply pw_below_drewN | apply below_drew1 | refine below_set ?_ GE238.out) | exact HB.out)⟩

/-- THE ONE PURE STATEMENT of towropelaw06_IpBack: yours. -/
def towropelaw06_IpBack.Pure : Prop := ∀ (l0 : List Int), l0.length ≤ maxLen → l0.length * 1 ≤ 140737488351232 → (∀ x ∈ l0, (Lit.int .u8 x).wf = true) → ∃ k, towropelaw06_IpBack.f k l0 = some true
theorem towropelaw06_IpBack.walk : True := trivial


end Go.Proofs.Ytdphjljbdodonaa.PIpB
