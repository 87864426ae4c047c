-- Laid by a program of this session (wip/tools/mk.py) over the kit's print: functions, contracts, walks; not written by hand, not trusted: Lean checks it.
import Derived.Test.YtdphjljbdodonaaPIpx0
import Derived.Test.YtdphjljbdodonaaPIpx1
import Derived.Test.YtdphjljbdodonaaPIpx5
import Derived.Test.YtdphjljbdodonaaPIpx8
import Derived.Test.YtdphjljbdodonaaPIpx11
namespace Go.Proofs.Ytdphjljbdodonaa.PIp
open Go.RowKit Go.Proofs.YtdphjljbdodonaaW.PrintWords Go.Proofs.YtdphjljbdodonaaW.PrintLast Go.Proofs.YtdphjljbdodonaaW.PrintMore
attribute [local go_sem] max2_int min2_int max_two min_two max_three min_three max_four min_four   -- for this text's walks alone
set_option linter.unusedVariables false
set_option linter.unusedSimpArgs false

/-! ### towropelaw06_IpGets: function 10 -/
mutual
def towropelaw06_IpGets.j0 : Nat → List Int → ByteArray → Bool → Int → Int → Bool → Bool → Int → Int → Int → Int → Int → List Int → List Int → Option (Bool)
 | 0, _, _, _, _, _, _, _, _, _, _, _, _, _, _ => none
 | k + 1, x0, x3, x34, x318000, x318001, x318002, x318003, x318004, x318005, x318006, x318007, x318008, x318009, x318010 => if x34 = true then (some false) else (towropelaw06_IpGets.l0 k x0 x3 0 x318000 x318001 x318002 x318003 x318004 x318005 x318006 x318007 x318008 x318009 x318010)
def towropelaw06_IpGets.l0 : Nat → List Int → ByteArray → Int → Int → Int → Bool → Bool → Int → Int → Int → Int → Int → List Int → List Int → Option (Bool)
 | 0, _, _, _, _, _, _, _, _, _, _, _, _, _, _ => none
 | k + 1, x0, x3, x8, x318000, x318001, x318002, x318003, x318004, x318005, x318006, x318007, x318008, x318009, x318010 => if x8 < (x318010.length : Int) then (if 0 ≤ x8 then (towropelaw06_IpGets.l0 k x0 x3 (wrap64 (x8 + 1)) x318000 x318001 x318002 x318003 x318004 x318005 x318006 x318007 x318008 x318009 (x318010.set (x8 : Int).toNat (Go.bits .xor .u8 (rd x318010 x8) 255))) else (none)) else (if (strOfNums x0).toList = x3.toList then ((towropelaw06_live.f k).bind fun t339 => (some t339)) else (some false))
end
def towropelaw06_IpGets.f (k : Nat) (l0 : List Int) : Option (Bool) := if (l0.length : Int) > 70000 then ((towropelaw06_live.f k).bind fun t300 => (some t300)) else ((ip_Get.f k l0).bind fun bt301 => ((towroperef06_Get.f k l0).bind fun bt318 => ((towropelaw06_code.f bt301.2.2.2.2.2.2.2.2.2.2.2).bind fun t335 => (if t335 = bt318.2.2.2.2.2.2.2.2.2.2.2 then ((towroperef06_Same.f bt301.1 bt301.2.1 bt301.2.2.1 bt301.2.2.2.1 bt301.2.2.2.2.1 bt301.2.2.2.2.2.1 bt301.2.2.2.2.2.2.1 bt301.2.2.2.2.2.2.2.1 bt301.2.2.2.2.2.2.2.2.1 bt301.2.2.2.2.2.2.2.2.2.1 bt301.2.2.2.2.2.2.2.2.2.2.1 bt318.1 bt318.2.1 bt318.2.2.1 bt318.2.2.2.1 bt318.2.2.2.2.1 bt318.2.2.2.2.2.1 bt318.2.2.2.2.2.2.1 bt318.2.2.2.2.2.2.2.1 bt318.2.2.2.2.2.2.2.2.1 bt318.2.2.2.2.2.2.2.2.2.1 bt318.2.2.2.2.2.2.2.2.2.2.1).bind fun t336 => (towropelaw06_IpGets.j0 k l0 (strOfNums l0) (!t336) bt301.1 bt301.2.1 bt301.2.2.1 bt301.2.2.2.1 bt301.2.2.2.2.1 bt301.2.2.2.2.2.1 bt301.2.2.2.2.2.2.1 bt301.2.2.2.2.2.2.2.1 bt301.2.2.2.2.2.2.2.2.1 bt301.2.2.2.2.2.2.2.2.2.1 bt301.2.2.2.2.2.2.2.2.2.2.1)) else (towropelaw06_IpGets.j0 k l0 (strOfNums l0) true bt301.1 bt301.2.1 bt301.2.2.1 bt301.2.2.2.1 bt301.2.2.2.2.1 bt301.2.2.2.2.2.1 bt301.2.2.2.2.2.2.1 bt301.2.2.2.2.2.2.2.1 bt301.2.2.2.2.2.2.2.2.1 bt301.2.2.2.2.2.2.2.2.2.1 bt301.2.2.2.2.2.2.2.2.2.2.1)))))
theorem towropelaw06_IpGets.mono_l : ∀ k, (∀ y0 y1 y2 y3 y4 y5 y6 y7 y8 y9 y10 y11 y12 y13, LeO (towropelaw06_IpGets.j0 k y0 y1 y2 y3 y4 y5 y6 y7 y8 y9 y10 y11 y12 y13) (towropelaw06_IpGets.j0 (k + 1) y0 y1 y2 y3 y4 y5 y6 y7 y8 y9 y10 y11 y12 y13)) ∧ (∀ y0 y1 y2 y3 y4 y5 y6 y7 y8 y9 y10 y11 y12 y13, LeO (towropelaw06_IpGets.l0 k y0 y1 y2 y3 y4 y5 y6 y7 y8 y9 y10 y11 y12 y13) (towropelaw06_IpGets.l0 (k + 1) y0 y1 y2 y3 y4 y5 y6 y7 y8 y9 y10 y11 y12 y13))
 | 0 => ⟨fun _ _ _ _ _ _ _ _ _ _ _ _ _ _ r h => by simp [towropelaw06_IpGets.j0] at h, fun _ _ _ _ _ _ _ _ _ _ _ _ _ _ r h => by simp [towropelaw06_IpGets.l0] at h⟩
 | k + 1 => by
  obtain ⟨ih0, ih1⟩ := towropelaw06_IpGets.mono_l k
  refine ⟨?_, ?_⟩
  ·
   intro y0 y1 y2 y3 y4 y5 y6 y7 y8 y9 y10 y11 y12 y13
   unfold towropelaw06_IpGets.j0
   repeat' first
   | (with_reducible exact ih0 _ _ _ _ _ _ _ _ _ _ _ _ _ _)
   | (with_reducible exact ih1 _ _ _ _ _ _ _ _ _ _ _ _ _ _)
   | (with_reducible exact ip_Get.mono _ _)
   | (with_reducible exact towropelaw06_live.mono _)
   | (with_reducible exact towroperef06_Get.mono _ _)
   | (with_reducible exact LeO.refl _)
   | (with_reducible exact LeO.none _)
   | (with_reducible refine LeO.ite ?_ ?_)
   | (with_reducible refine LeO.bind ?_ (fun _ => ?_))
   | exact ih0 _ _ _ _ _ _ _ _ _ _ _ _ _ _
   | exact ih1 _ _ _ _ _ _ _ _ _ _ _ _ _ _
   | exact ip_Get.mono _ _
   | exact towropelaw06_live.mono _
   | exact towroperef06_Get.mono _ _
   | exact LeO.none _
   | refine LeO.ite ?_ ?_
   | refine LeO.bind ?_ (fun _ => ?_)
  ·
   intro y0 y1 y2 y3 y4 y5 y6 y7 y8 y9 y10 y11 y12 y13
   unfold towropelaw06_IpGets.l0
   repeat' first
   | (with_reducible exact ih0 _ _ _ _ _ _ _ _ _ _ _ _ _ _)
   | (with_reducible exact ih1 _ _ _ _ _ _ _ _ _ _ _ _ _ _)
   | (with_reducible exact ip_Get.mono _ _)
   | (with_reducible exact towropelaw06_live.mono _)
   | (with_reducible exact towroperef06_Get.mono _ _)
   | (with_reducible exact LeO.refl _)
   | (with_reducible exact LeO.none _)
   | (with_reducible refine LeO.ite ?_ ?_)
   | (with_reducible refine LeO.bind ?_ (fun _ => ?_))
   | exact ih0 _ _ _ _ _ _ _ _ _ _ _ _ _ _
   | exact ih1 _ _ _ _ _ _ _ _ _ _ _ _ _ _
   | exact ip_Get.mono _ _
   | exact towropelaw06_live.mono _
   | exact towroperef06_Get.mono _ _
   | exact LeO.none _
   | refine LeO.ite ?_ ?_
   | refine LeO.bind ?_ (fun _ => ?_)
theorem towropelaw06_IpGets.mono : ∀ a0 k, LeO (towropelaw06_IpGets.f k a0) (towropelaw06_IpGets.f (k + 1) a0) := by
 intro a0 k
 obtain ⟨ih0, ih1⟩ := towropelaw06_IpGets.mono_l k
 unfold towropelaw06_IpGets.f
 repeat' first
   | (with_reducible exact ih0 _ _ _ _ _ _ _ _ _ _ _ _ _ _)
   | (with_reducible exact ih1 _ _ _ _ _ _ _ _ _ _ _ _ _ _)
   | (with_reducible exact ip_Get.mono _ _)
   | (with_reducible exact towropelaw06_live.mono _)
   | (with_reducible exact towroperef06_Get.mono _ _)
   | (with_reducible exact LeO.refl _)
   | (with_reducible exact LeO.none _)
   | (with_reducible refine LeO.ite ?_ ?_)
   | (with_reducible refine LeO.bind ?_ (fun _ => ?_))
   | exact ih0 _ _ _ _ _ _ _ _ _ _ _ _ _ _
   | exact ih1 _ _ _ _ _ _ _ _ _ _ _ _ _ _
   | exact ip_Get.mono _ _
   | exact towropelaw06_live.mono _
   | exact towroperef06_Get.mono _ _
   | exact LeO.none _
   | refine LeO.ite ?_ ?_
   | refine LeO.bind ?_ (fun _ => ?_)
def towropelaw06_IpGets.T11 : Bool × List (List Nat × List Nat) := (true, [([], []), ([0], [0]), ([], []), ([], []), ([3], [3]), ([], []), ([4, 5], [4, 5]), ([6], [6]), ([7], [7]), ([1, 2, 0, 1, 2, 3, 4, 5, 6, 7, 8], [1, 2]), ([9, 8, 0, 1, 2, 3, 4, 5, 6, 7, 8], [8, 9])])
def towropelaw06_IpGets.B11 : List Nat := [0, 1, 0, 0, 8, 0, 56, 120, 248, 511, 1023]
theorem towropelaw06_IpGets.tab11 : rtab .any (opsOf Try.f10 11) = towropelaw06_IpGets.T11 := by kernel_rfl
theorem towropelaw06_IpGets.bits11 : waitsOk towropelaw06_IpGets.T11.2 towropelaw06_IpGets.B11 = true := by kernel_rfl
set_option maxHeartbeats 8000000 in
set_option maxRecDepth 100000 in
theorem towropelaw06_IpGets.calls (k : Nat) (A0 : Option Addr) (c0 : Nat) (l0 : List Int) (r : Bool) (w : World) (hr0 : Kd.C (Kd.int .u8) w A0 l0.length l0) (hc0 : l0.length ≤ c0) (h : towropelaw06_IpGets.f k l0 = some r) :
  Calls Try.prog 10 #[.slice A0 l0.length c0] w fun e w' => e = .returned (.bool r) ∧ Below w.heap.size w w' := by
 have hu37 := Try.underlying37
 have HR0 := Aside0.mk hr0
 have HC0 := Aside0.mk hc0
 clear hr0 hc0
 have HB := Aside0.mk (Below.refl w.heap.size w)
 have H : (if (l0.length : Int) > 70000 then ((towropelaw06_live.f k).bind fun t300 => (some t300)) else ((ip_Get.f k l0).bind fun bt301 => ((towroperef06_Get.f k l0).bind fun bt318 => ((towropelaw06_code.f bt301.2.2.2.2.2.2.2.2.2.2.2).bind fun t335 => (if t335 = bt318.2.2.2.2.2.2.2.2.2.2.2 then ((towroperef06_Same.f bt301.1 bt301.2.1 bt301.2.2.1 bt301.2.2.2.1 bt301.2.2.2.2.1 bt301.2.2.2.2.2.1 bt301.2.2.2.2.2.2.1 bt301.2.2.2.2.2.2.2.1 bt301.2.2.2.2.2.2.2.2.1 bt301.2.2.2.2.2.2.2.2.2.1 bt301.2.2.2.2.2.2.2.2.2.2.1 bt318.1 bt318.2.1 bt318.2.2.1 bt318.2.2.2.1 bt318.2.2.2.2.1 bt318.2.2.2.2.2.1 bt318.2.2.2.2.2.2.1 bt318.2.2.2.2.2.2.2.1 bt318.2.2.2.2.2.2.2.2.1 bt318.2.2.2.2.2.2.2.2.2.1 bt318.2.2.2.2.2.2.2.2.2.2.1).bind fun t336 => (towropelaw06_IpGets.j0 k l0 (strOfNums l0) (!t336) bt301.1 bt301.2.1 bt301.2.2.1 bt301.2.2.2.1 bt301.2.2.2.2.1 bt301.2.2.2.2.2.1 bt301.2.2.2.2.2.2.1 bt301.2.2.2.2.2.2.2.1 bt301.2.2.2.2.2.2.2.2.1 bt301.2.2.2.2.2.2.2.2.2.1 bt301.2.2.2.2.2.2.2.2.2.2.1)) else (towropelaw06_IpGets.j0 k l0 (strOfNums l0) true bt301.1 bt301.2.1 bt301.2.2.1 bt301.2.2.2.1 bt301.2.2.2.2.1 bt301.2.2.2.2.2.1 bt301.2.2.2.2.2.2.1 bt301.2.2.2.2.2.2.2.1 bt301.2.2.2.2.2.2.2.2.1 bt301.2.2.2.2.2.2.2.2.2.1 bt301.2.2.2.2.2.2.2.2.2.2.1)))))) = some r := h
 clear h
 by_cases c2 : (l0.length : Int) > 70000
 ·
  rw [if_pos c2] at H
  have c2b0 : decide (70000 < (l0.length : Int)) = true := decide_eq_true c2
  have c2b1 : decide (70000 < l0.length) = true := decide_eq_true (by omega)
  clear c2
  replace H := Option.bind_eq_some_iff.mp H
  obtain ⟨t300, A30, H⟩ := H
  replace H : (some t300) = some r := H
  have A3 := Aside0.mk A30
  clear A30
  obtain rfl := Option.some.inj H
  go_enter Try.func10, Try.ntmps10
  go_wp2_with (first | ((with_reducible refine gate_callee (f := 22) rfl ?_); refine goesL_ (some 12) rfl rfl Try.func22 (by kernel_rfl) rfl #[] rfl (by (try simp only [List.map_toArray, List.map_cons, List.map_nil]); first | done | rfl | (simp only [List.length_drop, List.length_take]; rfl) | (go_simp; done) | (go_simp; omega)) ?_; (with_reducible refine (towropelaw06_live.calls k  t300 _ A3.out).mono ?_); rintro e w4 ⟨rfl, hb⟩; refine ⟨_, rfl, ?_⟩; have n0_ := Aside0.mk (below_step (by repeat (first | (with_reducible first | exact HB.out | apply below_alloc | apply pw_below_drewN | apply below_drew1) | exact HB.out)) hb); clear HB; have HB := n0_; clear n0_; (try clear hb); (try clear hb2); (try clear hk); (try clear hi)))
  go_ret
  exact ⟨by first | rfl | (simp [errW_none, errW_some] <;> rfl) | (simp [*, errW_none, errW_some] <;> rfl), by repeat (first | (with_reducible first | exact HB.out | apply below_alloc | apply pw_below_drewN | apply below_drew1) | exact HB.out)⟩
 ·
  rw [if_neg c2] at H
  have c2b0 : decide (70000 < (l0.length : Int)) = false := decide_eq_false c2
  have c2b1 : decide (70000 < l0.length) = false := decide_eq_false (by omega)
  clear c2
  replace H := Option.bind_eq_some_iff.mp H
  obtain ⟨⟨t301, t302, t303, t304, t305, t306, t307, t308, t309, t310, t313, t316⟩, A50, H⟩ := H
  replace H : ((towroperef06_Get.f k l0).bind fun bt318 => ((towropelaw06_code.f t316).bind fun t335 => (if t335 = bt318.2.2.2.2.2.2.2.2.2.2.2 then ((towroperef06_Same.f t301 t302 t303 t304 t305 t306 t307 t308 t309 t310 t313 bt318.1 bt318.2.1 bt318.2.2.1 bt318.2.2.2.1 bt318.2.2.2.2.1 bt318.2.2.2.2.2.1 bt318.2.2.2.2.2.2.1 bt318.2.2.2.2.2.2.2.1 bt318.2.2.2.2.2.2.2.2.1 bt318.2.2.2.2.2.2.2.2.2.1 bt318.2.2.2.2.2.2.2.2.2.2.1).bind fun t336 => (towropelaw06_IpGets.j0 k l0 (strOfNums l0) (!t336) t301 t302 t303 t304 t305 t306 t307 t308 t309 t310 t313)) else (towropelaw06_IpGets.j0 k l0 (strOfNums l0) true t301 t302 t303 t304 t305 t306 t307 t308 t309 t310 t313)))) = some r := H
  have A5 := Aside0.mk A50
  clear A50
  replace H := Option.bind_eq_some_iff.mp H
  obtain ⟨⟨t318, t319, t320, t321, t322, t323, t324, t325, t326, t327, t330, t333⟩, A60, H⟩ := H
  replace H : ((towropelaw06_code.f t316).bind fun t335 => (if t335 = t333 then ((towroperef06_Same.f t301 t302 t303 t304 t305 t306 t307 t308 t309 t310 t313 t318 t319 t320 t321 t322 t323 t324 t325 t326 t327 t330).bind fun t336 => (towropelaw06_IpGets.j0 k l0 (strOfNums l0) (!t336) t301 t302 t303 t304 t305 t306 t307 t308 t309 t310 t313)) else (towropelaw06_IpGets.j0 k l0 (strOfNums l0) true t301 t302 t303 t304 t305 t306 t307 t308 t309 t310 t313))) = some r := H
  have A6 := Aside0.mk A60
  clear A60
  have HC7 := Aside0.mk H
  clear H
  have hcv8 := Kd.C_string (P := Try.prog) (A := A0) (c := c0) Try.underlying23 Try.underlying5 Try.underlying9 HR0.out
  go_enter Try.func10, Try.ntmps10
  go_upto_region 6 with (first | ((with_reducible refine gate_callee (f := 36) rfl ?_); refine goesL_ (some 17) rfl rfl Try.func36 (by kernel_rfl) rfl #[.slice A0 l0.length c0] rfl (by (try simp only [List.map_toArray, List.map_cons, List.map_nil]); first | done | rfl | (simp only [List.length_drop, List.length_take]; rfl) | (go_simp; done) | (go_simp; omega)) ?_; (with_reducible refine (ip_Get.calls k _ _ l0 t301 t302 t303 t304 t305 t306 t307 t308 t309 t310 t313 t316 _ ?side1 ?side2 A5.out).mono ?_); (case side1 => repeat (first | exact HR0.out | (with_reducible refine Kd.C_alloc ?_ _) | (with_reducible refine Kd.C_drewN ?_ _) | (with_reducible refine Kd.C_drew ?_))); (case side2 => exact HC0.out); rintro e w9 ⟨v311, v314, rfl, ho0, ho1, hb⟩; refine ⟨_, rfl, ?_⟩; have n0_ := Aside0.mk (Kd.R_lower ho0 (below_size (by repeat (first | (with_reducible first | exact HB.out | apply below_alloc | apply pw_below_drewN | apply below_drew1) | exact HB.out)))); have n1_ := Aside0.mk (Kd.R_lower ho1 (below_size (by repeat (first | (with_reducible first | exact HB.out | apply below_alloc | apply pw_below_drewN | apply below_drew1) | exact HB.out)))); have n2_ := Aside0.mk (below_step (by repeat (first | (with_reducible first | exact HB.out | apply below_alloc | apply pw_below_drewN | apply below_drew1) | exact HB.out)) hb); clear HB; have HO312 := n0_; have HO315 := n1_; have HB := n2_; clear n0_ n1_ n2_; (try clear hb); (try clear hb2); (try clear hk); (try clear hi); (try clear ho0); (try clear ho1)) | ((with_reducible refine gate_dst (N := 4) rfl ?_); refine box_event ?hg (N := 4) ?hd (cs := #[.int .u8 0, .int .u16 0, .bool false, .bool false, .int .i64 0, .int .u8 0, .int .u8 0, .int .u32 0, .int .u32 0, .slice none 0 0, .slice none 0 0]) (t := 37) ?hr ?_; (case hd => rfl); (case hg => rfl); (case hr => first | (go_simp; done) | (go_simp; rfl)); intro gb317 hg w10 hbox hb; have n0_ := Aside0.mk (Kd.R_below (by (with_reducible repeat (first | apply Kd.R_alloc | apply Kd.R_drewN | apply Kd.R_drew)); exact HO312.out) hb); have n1_ := Aside0.mk (Kd.R_below (by (with_reducible repeat (first | apply Kd.R_alloc | apply Kd.R_drewN | apply Kd.R_drew)); exact HO315.out) hb); have n2_ := Aside0.mk (below_step (by repeat (first | (with_reducible first | exact HB.out | apply below_alloc | apply pw_below_drewN | apply below_drew1) | exact HB.out)) hb); have n3_ := Aside0.mk (hbox); have n4_ := Aside0.mk ((by rw [hg]; exact (below_size (by repeat (first | (with_reducible first | exact HB.out | apply below_alloc | apply pw_below_drewN | apply below_drew1) | exact HB.out))) : w.heap.size ≤ gb317)); have n5_ := Aside0.mk ((by rw [hg]; exact (below_size (by repeat (first | (with_reducible first | exact HB.out | apply below_alloc | apply pw_below_drewN | apply below_drew1) | exact HB.out))) : w.heap.size ≤ gb317)); clear HO312; clear HO315; clear HB; have HO312 := n0_; have HO315 := n1_; have HB := n2_; have BK317 := n3_; have GW317 := n4_; have GE317 := n5_; clear n0_ n1_ n2_ n3_ n4_ n5_; clear hb hbox hg; have hcz11_0 : w10.cell? ⟨gb317, 0, none⟩ = some (.int .u8 0) := (blk_cell BK317.out 0).trans rfl; have hcz11_1 : w10.cell? ⟨gb317, 1, none⟩ = some (.int .u16 0) := (blk_cell BK317.out 1).trans rfl; have hcz11_2 : w10.cell? ⟨gb317, 2, none⟩ = some (.bool false) := (blk_cell BK317.out 2).trans rfl; have hcz11_3 : w10.cell? ⟨gb317, 3, none⟩ = some (.bool false) := (blk_cell BK317.out 3).trans rfl; have hcz11_4 : w10.cell? ⟨gb317, 4, none⟩ = some (.int .i64 0) := (blk_cell BK317.out 4).trans rfl; have hcz11_5 : w10.cell? ⟨gb317, 5, none⟩ = some (.int .u8 0) := (blk_cell BK317.out 5).trans rfl; have hcz11_6 : w10.cell? ⟨gb317, 6, none⟩ = some (.int .u8 0) := (blk_cell BK317.out 6).trans rfl; have hcz11_7 : w10.cell? ⟨gb317, 7, none⟩ = some (.int .u32 0) := (blk_cell BK317.out 7).trans rfl; have hcz11_8 : w10.cell? ⟨gb317, 8, none⟩ = some (.int .u32 0) := (blk_cell BK317.out 8).trans rfl; have hcz11_9 : w10.cell? ⟨gb317, 9, none⟩ = some (.slice none 0 0) := (blk_cell BK317.out 9).trans rfl; have hcz11_10 : w10.cell? ⟨gb317, 10, none⟩ = some (.slice none 0 0) := (blk_cell BK317.out 10).trans rfl; have hfz11_0 := blk_frozen BK317.out 0; have hfz11_1 := blk_frozen BK317.out 1; have hfz11_2 := blk_frozen BK317.out 2; have hfz11_3 := blk_frozen BK317.out 3; have hfz11_4 := blk_frozen BK317.out 4; have hfz11_5 := blk_frozen BK317.out 5; have hfz11_6 := blk_frozen BK317.out 6; have hfz11_7 := blk_frozen BK317.out 7; have hfz11_8 := blk_frozen BK317.out 8; have hfz11_9 := blk_frozen BK317.out 9; have hfz11_10 := blk_frozen BK317.out 10; (try (obtain ⟨Ao12, co12, eo12⟩ := Kd.R_slice HO312.out; subst eo12)); (try (obtain ⟨Ao13, co13, eo13⟩ := Kd.R_slice HO315.out; subst eo13))) | ((with_reducible refine gate_store (t := 37) (p := 4) rfl ?_); refine store_event (t := 37) (p := 4) (v := ?vo_w14) (w1 := (((((((((((w10.setCell ⟨gb317, 0, none⟩ (.int .u8 t301)).setCell ⟨gb317, 1, none⟩ (.int .u16 t302)).setCell ⟨gb317, 2, none⟩ (.bool t303)).setCell ⟨gb317, 3, none⟩ (.bool t304)).setCell ⟨gb317, 4, none⟩ (.int .i64 t305)).setCell ⟨gb317, 5, none⟩ (.int .u8 t306)).setCell ⟨gb317, 6, none⟩ (.int .u8 t307)).setCell ⟨gb317, 7, none⟩ (.int .u32 t308)).setCell ⟨gb317, 8, none⟩ (.int .u32 t309)).setCell ⟨gb317, 9, none⟩ (.slice Ao12 t310.length co12)).setCell ⟨gb317, 10, none⟩ (.slice Ao13 t313.length co13))) ?hg ?ho ?hn ?hr ?_; (case ho => rfl); (case hg => rfl); (case hn => rfl); (case hr => first | (go_simp; done) | (go_simp; rfl)); intro w14 hw; have n0_ : Aside0 (Kd.R (Kd.int .u8) 5 w14 w.heap.size (fun k_ => some k_ ≠ (.slice Ao13 t313.length co13 : Value).ownBlock) (.slice Ao12 t310.length co12) t310) := ⟨(by rw [hw]; exact (by (with_reducible repeat (first | apply Kd.R_alloc | apply Kd.R_drewN | apply Kd.R_drew)); exact Kd.R_mono (Kd.R_far (p := ⟨gb317, 10, none⟩) (Kd.R_far (p := ⟨gb317, 9, none⟩) (Kd.R_far (p := ⟨gb317, 8, none⟩) (Kd.R_far (p := ⟨gb317, 7, none⟩) (Kd.R_far (p := ⟨gb317, 6, none⟩) (Kd.R_far (p := ⟨gb317, 5, none⟩) (Kd.R_far (p := ⟨gb317, 4, none⟩) (Kd.R_far (p := ⟨gb317, 3, none⟩) (Kd.R_far (p := ⟨gb317, 2, none⟩) (Kd.R_far (p := ⟨gb317, 1, none⟩) (Kd.R_far (p := ⟨gb317, 0, none⟩) (Kd.R_types HO312.out BK317.out (by decide)) (fun _ hk => hk.2) (.int .u8 t301)) (fun _ hk => hk.2) (.int .u16 t302)) (fun _ hk => hk.2) (.bool t303)) (fun _ hk => hk.2) (.bool t304)) (fun _ hk => hk.2) (.int .i64 t305)) (fun _ hk => hk.2) (.int .u8 t306)) (fun _ hk => hk.2) (.int .u8 t307)) (fun _ hk => hk.2) (.int .u32 t308)) (fun _ hk => hk.2) (.int .u32 t309)) (fun _ hk => hk.2) (.slice Ao12 t310.length co12)) (fun _ hk => hk.2) (.slice Ao13 t313.length co13)) (fun _ hk => hk.1)))⟩; have n1_ : Aside0 (Kd.R (Kd.int .u8) 5 w14 w.heap.size (fun k_ => some k_ ≠ (.slice Ao12 t310.length co12 : Value).ownBlock) (.slice Ao13 t313.length co13) t313) := ⟨(by rw [hw]; exact (by (with_reducible repeat (first | apply Kd.R_alloc | apply Kd.R_drewN | apply Kd.R_drew)); exact Kd.R_mono (Kd.R_far (p := ⟨gb317, 10, none⟩) (Kd.R_far (p := ⟨gb317, 9, none⟩) (Kd.R_far (p := ⟨gb317, 8, none⟩) (Kd.R_far (p := ⟨gb317, 7, none⟩) (Kd.R_far (p := ⟨gb317, 6, none⟩) (Kd.R_far (p := ⟨gb317, 5, none⟩) (Kd.R_far (p := ⟨gb317, 4, none⟩) (Kd.R_far (p := ⟨gb317, 3, none⟩) (Kd.R_far (p := ⟨gb317, 2, none⟩) (Kd.R_far (p := ⟨gb317, 1, none⟩) (Kd.R_far (p := ⟨gb317, 0, none⟩) (Kd.R_types HO315.out BK317.out (by decide)) (fun _ hk => hk.2) (.int .u8 t301)) (fun _ hk => hk.2) (.int .u16 t302)) (fun _ hk => hk.2) (.bool t303)) (fun _ hk => hk.2) (.bool t304)) (fun _ hk => hk.2) (.int .i64 t305)) (fun _ hk => hk.2) (.int .u8 t306)) (fun _ hk => hk.2) (.int .u8 t307)) (fun _ hk => hk.2) (.int .u32 t308)) (fun _ hk => hk.2) (.int .u32 t309)) (fun _ hk => hk.2) (.slice Ao12 t310.length co12)) (fun _ hk => hk.2) (.slice Ao13 t313.length co13)) (fun _ hk => hk.1)))⟩; have n2_ : Aside0 (w14.heap[gb317]? = some (.cells #[.int .u8 t301, .int .u16 t302, .bool t303, .bool t304, .int .i64 t305, .int .u8 t306, .int .u8 t307, .int .u32 t308, .int .u32 t309, .slice Ao12 t310.length co12, .slice Ao13 t313.length co13] 37 (0, 0))) := ⟨(by rw [hw]; exact (by (with_reducible repeat (first | refine blk_drewN ?_ _ | refine blk_drew ?_ | refine blk_alloc ?_ _)); refine blk_put (cs := #[.int .u8 t301, .int .u16 t302, .bool t303, .bool t304, .int .i64 t305, .int .u8 t306, .int .u8 t307, .int .u32 t308, .int .u32 t309, .slice Ao12 t310.length co12, .slice none 0 0]) ?_ 10 _ rfl; (with_reducible repeat (first | refine blk_drewN ?_ _ | refine blk_drew ?_ | refine blk_alloc ?_ _)); refine blk_put (cs := #[.int .u8 t301, .int .u16 t302, .bool t303, .bool t304, .int .i64 t305, .int .u8 t306, .int .u8 t307, .int .u32 t308, .int .u32 t309, .slice none 0 0, .slice none 0 0]) ?_ 9 _ rfl; (with_reducible repeat (first | refine blk_drewN ?_ _ | refine blk_drew ?_ | refine blk_alloc ?_ _)); refine blk_put (cs := #[.int .u8 t301, .int .u16 t302, .bool t303, .bool t304, .int .i64 t305, .int .u8 t306, .int .u8 t307, .int .u32 t308, .int .u32 0, .slice none 0 0, .slice none 0 0]) ?_ 8 _ rfl; (with_reducible repeat (first | refine blk_drewN ?_ _ | refine blk_drew ?_ | refine blk_alloc ?_ _)); refine blk_put (cs := #[.int .u8 t301, .int .u16 t302, .bool t303, .bool t304, .int .i64 t305, .int .u8 t306, .int .u8 t307, .int .u32 0, .int .u32 0, .slice none 0 0, .slice none 0 0]) ?_ 7 _ rfl; (with_reducible repeat (first | refine blk_drewN ?_ _ | refine blk_drew ?_ | refine blk_alloc ?_ _)); refine blk_put (cs := #[.int .u8 t301, .int .u16 t302, .bool t303, .bool t304, .int .i64 t305, .int .u8 t306, .int .u8 0, .int .u32 0, .int .u32 0, .slice none 0 0, .slice none 0 0]) ?_ 6 _ rfl; (with_reducible repeat (first | refine blk_drewN ?_ _ | refine blk_drew ?_ | refine blk_alloc ?_ _)); refine blk_put (cs := #[.int .u8 t301, .int .u16 t302, .bool t303, .bool t304, .int .i64 t305, .int .u8 0, .int .u8 0, .int .u32 0, .int .u32 0, .slice none 0 0, .slice none 0 0]) ?_ 5 _ rfl; (with_reducible repeat (first | refine blk_drewN ?_ _ | refine blk_drew ?_ | refine blk_alloc ?_ _)); refine blk_put (cs := #[.int .u8 t301, .int .u16 t302, .bool t303, .bool t304, .int .i64 0, .int .u8 0, .int .u8 0, .int .u32 0, .int .u32 0, .slice none 0 0, .slice none 0 0]) ?_ 4 _ rfl; (with_reducible repeat (first | refine blk_drewN ?_ _ | refine blk_drew ?_ | refine blk_alloc ?_ _)); refine blk_put (cs := #[.int .u8 t301, .int .u16 t302, .bool t303, .bool false, .int .i64 0, .int .u8 0, .int .u8 0, .int .u32 0, .int .u32 0, .slice none 0 0, .slice none 0 0]) ?_ 3 _ rfl; (with_reducible repeat (first | refine blk_drewN ?_ _ | refine blk_drew ?_ | refine blk_alloc ?_ _)); refine blk_put (cs := #[.int .u8 t301, .int .u16 t302, .bool false, .bool false, .int .i64 0, .int .u8 0, .int .u8 0, .int .u32 0, .int .u32 0, .slice none 0 0, .slice none 0 0]) ?_ 2 _ rfl; (with_reducible repeat (first | refine blk_drewN ?_ _ | refine blk_drew ?_ | refine blk_alloc ?_ _)); refine blk_put (cs := #[.int .u8 t301, .int .u16 0, .bool false, .bool false, .int .i64 0, .int .u8 0, .int .u8 0, .int .u32 0, .int .u32 0, .slice none 0 0, .slice none 0 0]) ?_ 1 _ rfl; (with_reducible repeat (first | refine blk_drewN ?_ _ | refine blk_drew ?_ | refine blk_alloc ?_ _)); refine blk_put (cs := #[.int .u8 0, .int .u16 0, .bool false, .bool false, .int .i64 0, .int .u8 0, .int .u8 0, .int .u32 0, .int .u32 0, .slice none 0 0, .slice none 0 0]) ?_ 0 _ rfl; (with_reducible repeat (first | refine blk_drewN ?_ _ | refine blk_drew ?_ | refine blk_alloc ?_ _)); exact BK317.out))⟩; have n3_ : Aside0 (Below w.heap.size w w14) := ⟨(by rw [hw]; exact (by repeat (first | (with_reducible first | exact HB.out | apply below_alloc | apply pw_below_drewN | apply below_drew1 | refine below_set ?_ GE317.out) | exact HB.out)))⟩; clear hw; clear HO312; clear HO315; clear BK317; clear HB; have HO312 := n0_; have HO315 := n1_; have BK317 := n2_; have HB := n3_; clear n0_ n1_ n2_ n3_) | ((with_reducible refine gate_callee (f := 37) rfl ?_); refine goesL_ (some 22) rfl rfl Try.func37 (by kernel_rfl) rfl #[.slice A0 l0.length c0] rfl (by (try simp only [List.map_toArray, List.map_cons, List.map_nil]); first | done | rfl | (simp only [List.length_drop, List.length_take]; rfl) | (go_simp; done) | (go_simp; omega)) ?_; (with_reducible refine (towroperef06_Get.calls k (fun k_ => k_ < w.heap.size) _ _ l0 t318 t319 t320 t321 t322 t323 t324 t325 t326 t327 t330 t333 _ ?side1 A6.out).mono ?_); (case side1 => exact Kd.V_mk HC0.out (Kd.F_below (Kd.C_F (Kd.heap_int .u8) HR0.out) (by repeat (first | (with_reducible first | exact HB.out | apply below_alloc | apply pw_below_drewN | apply below_drew1 | refine below_set ?_ GE317.out) | exact HB.out)))); rintro e w15 ⟨v328, v331, rfl, ho0, ho1, hb⟩; refine ⟨_, rfl, ?_⟩; have n0_ := Aside0.mk (Kd.R_below (by (with_reducible repeat (first | apply Kd.R_alloc | apply Kd.R_drewN | apply Kd.R_drew)); exact HO312.out) hb); have n1_ := Aside0.mk (Kd.R_below (by (with_reducible repeat (first | apply Kd.R_alloc | apply Kd.R_drewN | apply Kd.R_drew)); exact HO315.out) hb); have n2_ := Aside0.mk (Kd.V_lower (Kd.V_mono (ok' := fun k_ => some k_ ≠ (.slice Ao12 t310.length co12 : Value).ownBlock ∧ some k_ ≠ (.slice Ao13 t313.length co13 : Value).ownBlock ∧ k_ ≠ gb317) ho0 (fun k_ hk_ => ⟨Or.elim hk_ (fun hs_ => fun e_ => Nat.not_le.2 hs_ (Kd.R_base HO312.out k_ e_.symm)) (fun hn_ => (Kd.fresh' (Kd.R_lt (by (with_reducible repeat (first | apply Kd.R_alloc | apply Kd.R_drewN | apply Kd.R_drew)); exact HO312.out)) k_ hn_)), Or.elim hk_ (fun hs_ => fun e_ => Nat.not_le.2 hs_ (Kd.R_base HO315.out k_ e_.symm)) (fun hn_ => (Kd.fresh' (Kd.R_lt (by (with_reducible repeat (first | apply Kd.R_alloc | apply Kd.R_drewN | apply Kd.R_drew)); exact HO315.out)) k_ hn_)), Or.elim hk_ (fun hs_ => fun e_ => Nat.not_le.2 hs_ (by rw [e_]; exact GW317.out)) (fun hn_ => (Kd.freshB (g := gb317) (o := .cells #[.int .u8 t301, .int .u16 t302, .bool t303, .bool t304, .int .i64 t305, .int .u8 t306, .int .u8 t307, .int .u32 t308, .int .u32 t309, .slice Ao12 t310.length co12, .slice Ao13 t313.length co13] 37 (0, 0)) (by (with_reducible repeat (first | refine blk_drewN ?_ _ | refine blk_drew ?_ | refine blk_alloc ?_ _)); exact BK317.out) k_ hn_))⟩)) (below_size (by repeat (first | (with_reducible first | exact HB.out | apply below_alloc | apply pw_below_drewN | apply below_drew1 | refine below_set ?_ GE317.out) | exact HB.out)))); have n3_ := Aside0.mk (Kd.V_lower (Kd.V_mono (ok' := fun k_ => some k_ ≠ (.slice Ao12 t310.length co12 : Value).ownBlock ∧ some k_ ≠ (.slice Ao13 t313.length co13 : Value).ownBlock ∧ k_ ≠ gb317) ho1 (fun k_ hk_ => ⟨Or.elim hk_ (fun hs_ => fun e_ => Nat.not_le.2 hs_ (Kd.R_base HO312.out k_ e_.symm)) (fun hn_ => (Kd.fresh' (Kd.R_lt (by (with_reducible repeat (first | apply Kd.R_alloc | apply Kd.R_drewN | apply Kd.R_drew)); exact HO312.out)) k_ hn_)), Or.elim hk_ (fun hs_ => fun e_ => Nat.not_le.2 hs_ (Kd.R_base HO315.out k_ e_.symm)) (fun hn_ => (Kd.fresh' (Kd.R_lt (by (with_reducible repeat (first | apply Kd.R_alloc | apply Kd.R_drewN | apply Kd.R_drew)); exact HO315.out)) k_ hn_)), Or.elim hk_ (fun hs_ => fun e_ => Nat.not_le.2 hs_ (by rw [e_]; exact GW317.out)) (fun hn_ => (Kd.freshB (g := gb317) (o := .cells #[.int .u8 t301, .int .u16 t302, .bool t303, .bool t304, .int .i64 t305, .int .u8 t306, .int .u8 t307, .int .u32 t308, .int .u32 t309, .slice Ao12 t310.length co12, .slice Ao13 t313.length co13] 37 (0, 0)) (by (with_reducible repeat (first | refine blk_drewN ?_ _ | refine blk_drew ?_ | refine blk_alloc ?_ _)); exact BK317.out) k_ hn_))⟩)) (below_size (by repeat (first | (with_reducible first | exact HB.out | apply below_alloc | apply pw_below_drewN | apply below_drew1 | refine below_set ?_ GE317.out) | exact HB.out)))); have n4_ := Aside0.mk (blk_below (g := gb317) (o := .cells #[.int .u8 t301, .int .u16 t302, .bool t303, .bool t304, .int .i64 t305, .int .u8 t306, .int .u8 t307, .int .u32 t308, .int .u32 t309, .slice Ao12 t310.length co12, .slice Ao13 t313.length co13] 37 (0, 0)) (by (with_reducible repeat (first | refine blk_drewN ?_ _ | refine blk_drew ?_ | refine blk_alloc ?_ _)); exact BK317.out) hb); have n5_ := Aside0.mk (below_step (by repeat (first | (with_reducible first | exact HB.out | apply below_alloc | apply pw_below_drewN | apply below_drew1 | refine below_set ?_ GE317.out) | exact HB.out)) hb); clear HO312; clear HO315; clear BK317; clear HB; have HO312 := n0_; have HO315 := n1_; have HO329 := n2_; have HO332 := n3_; have BK317 := n4_; have HB := n5_; clear n0_ n1_ n2_ n3_ n4_ n5_; (try clear hb); (try clear hb2); (try clear hk); (try clear hi); (try clear ho0); (try clear ho1)) | ((with_reducible refine gate_dst (N := 6) rfl ?_); refine box_event ?hg (N := 6) ?hd (cs := #[.int .u8 0, .int .u16 0, .bool false, .bool false, .int .i64 0, .int .u8 0, .int .u8 0, .int .u32 0, .int .u32 0, .slice none 0 0, .slice none 0 0]) (t := 37) ?hr ?_; (case hd => rfl); (case hg => rfl); (case hr => first | (go_simp; done) | (go_simp; rfl)); intro gb334 hg w16 hbox hb; have n0_ := Aside0.mk (Kd.R_below (by (with_reducible repeat (first | apply Kd.R_alloc | apply Kd.R_drewN | apply Kd.R_drew)); exact HO312.out) hb); have n1_ := Aside0.mk (Kd.R_below (by (with_reducible repeat (first | apply Kd.R_alloc | apply Kd.R_drewN | apply Kd.R_drew)); exact HO315.out) hb); have n2_ := Aside0.mk (Kd.V_below (Kd.V_elderB (by (with_reducible repeat (first | apply Kd.V_alloc | apply Kd.V_drewN | apply Kd.V_drew)); exact HO329.out) gb334 (Nat.le_of_eq hg.symm)) hb); have n3_ := Aside0.mk (Kd.V_below (Kd.V_elderB (by (with_reducible repeat (first | apply Kd.V_alloc | apply Kd.V_drewN | apply Kd.V_drew)); exact HO332.out) gb334 (Nat.le_of_eq hg.symm)) hb); have n4_ := Aside0.mk (blk_below (g := gb317) (o := .cells #[.int .u8 t301, .int .u16 t302, .bool t303, .bool t304, .int .i64 t305, .int .u8 t306, .int .u8 t307, .int .u32 t308, .int .u32 t309, .slice Ao12 t310.length co12, .slice Ao13 t313.length co13] 37 (0, 0)) (by (with_reducible repeat (first | refine blk_drewN ?_ _ | refine blk_drew ?_ | refine blk_alloc ?_ _)); exact BK317.out) hb); have n5_ := Aside0.mk (below_step (by repeat (first | (with_reducible first | exact HB.out | apply below_alloc | apply pw_below_drewN | apply below_drew1 | refine below_set ?_ GE317.out) | exact HB.out)) hb); have n6_ := Aside0.mk (hbox); have n7_ := Aside0.mk ((by rw [hg]; exact (below_size (by repeat (first | (with_reducible first | exact HB.out | apply below_alloc | apply pw_below_drewN | apply below_drew1 | refine below_set ?_ GE317.out) | exact HB.out))) : w.heap.size ≤ gb334)); have n8_ := Aside0.mk ((by rw [hg]; exact (below_size (by repeat (first | (with_reducible first | exact HB.out | apply below_alloc | apply pw_below_drewN | apply below_drew1 | refine below_set ?_ GE317.out) | exact HB.out))) : w.heap.size ≤ gb334)); have n9_ := Aside0.mk ((by rw [hg]; exact Nat.ne_of_lt (blk_lt (g := gb317) (o := .cells #[.int .u8 t301, .int .u16 t302, .bool t303, .bool t304, .int .i64 t305, .int .u8 t306, .int .u8 t307, .int .u32 t308, .int .u32 t309, .slice Ao12 t310.length co12, .slice Ao13 t313.length co13] 37 (0, 0)) (by (with_reducible repeat (first | refine blk_drewN ?_ _ | refine blk_drew ?_ | refine blk_alloc ?_ _)); exact BK317.out)) : gb317 ≠ gb334)); have n10_ := Aside0.mk ((by rw [hg]; exact Nat.ne_of_gt (blk_lt (g := gb317) (o := .cells #[.int .u8 t301, .int .u16 t302, .bool t303, .bool t304, .int .i64 t305, .int .u8 t306, .int .u8 t307, .int .u32 t308, .int .u32 t309, .slice Ao12 t310.length co12, .slice Ao13 t313.length co13] 37 (0, 0)) (by (with_reducible repeat (first | refine blk_drewN ?_ _ | refine blk_drew ?_ | refine blk_alloc ?_ _)); exact BK317.out)) : gb334 ≠ gb317)); clear HO312; clear HO315; clear HO329; clear HO332; clear BK317; clear HB; have HO312 := n0_; have HO315 := n1_; have HO329 := n2_; have HO332 := n3_; have BK317 := n4_; have HB := n5_; have BK334 := n6_; have GW334 := n7_; have GE334 := n8_; have NB317_334 := n9_; have NB334_317 := n10_; clear n0_ n1_ n2_ n3_ n4_ n5_ n6_ n7_ n8_ n9_ n10_; clear hb hbox hg; have hnb17 := NB334_317.out; have hnc17 := NB317_334.out; have hcz18_0 : w16.cell? ⟨gb334, 0, none⟩ = some (.int .u8 0) := (blk_cell BK334.out 0).trans rfl; have hcz18_1 : w16.cell? ⟨gb334, 1, none⟩ = some (.int .u16 0) := (blk_cell BK334.out 1).trans rfl; have hcz18_2 : w16.cell? ⟨gb334, 2, none⟩ = some (.bool false) := (blk_cell BK334.out 2).trans rfl; have hcz18_3 : w16.cell? ⟨gb334, 3, none⟩ = some (.bool false) := (blk_cell BK334.out 3).trans rfl; have hcz18_4 : w16.cell? ⟨gb334, 4, none⟩ = some (.int .i64 0) := (blk_cell BK334.out 4).trans rfl; have hcz18_5 : w16.cell? ⟨gb334, 5, none⟩ = some (.int .u8 0) := (blk_cell BK334.out 5).trans rfl; have hcz18_6 : w16.cell? ⟨gb334, 6, none⟩ = some (.int .u8 0) := (blk_cell BK334.out 6).trans rfl; have hcz18_7 : w16.cell? ⟨gb334, 7, none⟩ = some (.int .u32 0) := (blk_cell BK334.out 7).trans rfl; have hcz18_8 : w16.cell? ⟨gb334, 8, none⟩ = some (.int .u32 0) := (blk_cell BK334.out 8).trans rfl; have hcz18_9 : w16.cell? ⟨gb334, 9, none⟩ = some (.slice none 0 0) := (blk_cell BK334.out 9).trans rfl; have hcz18_10 : w16.cell? ⟨gb334, 10, none⟩ = some (.slice none 0 0) := (blk_cell BK334.out 10).trans rfl; have hfz18_0 := blk_frozen BK334.out 0; have hfz18_1 := blk_frozen BK334.out 1; have hfz18_2 := blk_frozen BK334.out 2; have hfz18_3 := blk_frozen BK334.out 3; have hfz18_4 := blk_frozen BK334.out 4; have hfz18_5 := blk_frozen BK334.out 5; have hfz18_6 := blk_frozen BK334.out 6; have hfz18_7 := blk_frozen BK334.out 7; have hfz18_8 := blk_frozen BK334.out 8; have hfz18_9 := blk_frozen BK334.out 9; have hfz18_10 := blk_frozen BK334.out 10; (try (obtain ⟨Ao19, co19, eo19⟩ := Kd.V_slice HO329.out; subst eo19)); (try (obtain ⟨Ao20, co20, eo20⟩ := Kd.V_slice HO332.out; subst eo20))))
  (try simp only [Act.put, List.setIfInBounds_toArray, List.set_cons_zero, List.set_cons_succ])
  go_cut [34] (fun v34 wc => ∃ (kq : Nat) (x34_6 : Bool), v34 = .bool x34_6 ∧ Aside0 (towropelaw06_IpGets.j0 kq l0 (strOfNums l0) x34_6 t301 t302 t303 t304 t305 t306 t307 t308 t309 t310 t313 = some r) ∧ Aside0 (kq ≤ k) ∧ Aside0 (Kd.R (Kd.int .u8) 5 wc w.heap.size (fun k_ => some k_ ≠ ((.slice Ao13 t313.length co13) : Value).ownBlock) (.slice Ao12 t310.length co12) t310) ∧ Aside0 (Kd.R (Kd.int .u8) 5 wc w.heap.size (fun k_ => some k_ ≠ ((.slice Ao12 t310.length co12) : Value).ownBlock) (.slice Ao13 t313.length co13) t313) ∧ Aside0 (Kd.V (Kd.int .u8) 5 wc w.heap.size (fun k_ => some k_ ≠ ((.slice Ao12 t310.length co12) : Value).ownBlock ∧ some k_ ≠ ((.slice Ao13 t313.length co13) : Value).ownBlock ∧ k_ ≠ gb317 ∧ k_ ≠ gb334) (.slice Ao19 t327.length co19) t327) ∧ Aside0 (Kd.V (Kd.int .u8) 5 wc w.heap.size (fun k_ => some k_ ≠ ((.slice Ao12 t310.length co12) : Value).ownBlock ∧ some k_ ≠ ((.slice Ao13 t313.length co13) : Value).ownBlock ∧ k_ ≠ gb317 ∧ k_ ≠ gb334) (.slice Ao20 t330.length co20) t330) ∧ Aside0 (wc.heap[gb317]? = some (.cells #[.int .u8 t301, .int .u16 t302, .bool t303, .bool t304, .int .i64 t305, .int .u8 t306, .int .u8 t307, .int .u32 t308, .int .u32 t309, (.slice Ao12 t310.length co12), (.slice Ao13 t313.length co13)] 37 (0, 0))) ∧ Aside0 (wc.heap[gb334]? = some (.cells #[.int .u8 t318, .int .u16 t319, .bool t320, .bool t321, .int .i64 t322, .int .u8 t323, .int .u8 t324, .int .u32 t325, .int .u32 t326, (.slice Ao19 t327.length co19), (.slice Ao20 t330.length co20)] 37 (0, 0))) ∧ Aside0 (Below w.heap.size w wc))
  case first =>
   have H := HC7.out
   clear HC7
   replace H := Option.bind_eq_some_iff.mp H
   obtain ⟨t335, A210, H⟩ := H
   replace H : (if t335 = t333 then ((towroperef06_Same.f t301 t302 t303 t304 t305 t306 t307 t308 t309 t310 t313 t318 t319 t320 t321 t322 t323 t324 t325 t326 t327 t330).bind fun t336 => (towropelaw06_IpGets.j0 k l0 (strOfNums l0) (!t336) t301 t302 t303 t304 t305 t306 t307 t308 t309 t310 t313)) else (towropelaw06_IpGets.j0 k l0 (strOfNums l0) true t301 t302 t303 t304 t305 t306 t307 t308 t309 t310 t313)) = some r := H
   have A21 := Aside0.mk A210
   clear A210
   by_cases c22 : t335 = t333
   ·
    rw [if_pos c22] at H
    have c22b0 : (t335 == t333) = true := beq_iff_eq.mpr c22
    have c22b1 : (t335 != t333) = false := bne_eq_false_iff_eq.mpr c22
    clear c22
    (first | rw [c22b0] | (simp only [i64_w, i32_w]; rw [c22b0]) | skip)
    replace H := Option.bind_eq_some_iff.mp H
    obtain ⟨t336, A230, H⟩ := H
    replace H : (towropelaw06_IpGets.j0 k l0 (strOfNums l0) (!t336) t301 t302 t303 t304 t305 t306 t307 t308 t309 t310 t313) = some r := H
    have A23 := Aside0.mk A230
    clear A230
    have H' := Aside0.mk H
    clear H
    go_wp2_with (first | ((with_reducible refine gate_callee (f := 38) rfl ?_); refine goesL_ (some 26) rfl rfl Try.func38 (by kernel_rfl) rfl #[.int .i64 t316] rfl (by (try simp only [List.map_toArray, List.map_cons, List.map_nil]); first | done | rfl | (simp only [List.length_drop, List.length_take]; rfl) | (go_simp; done) | (go_simp; omega)) ?_; (with_reducible refine (towropelaw06_code.calls t316 t335 _ A21.out).mono ?_); rintro e w' ⟨rfl, ⟨nd, rfl⟩⟩; refine ⟨_, rfl, ?_⟩; have hnb24 := NB317_334.out; have hnc24 := NB334_317.out; have hcz25_0 : w16.cell? ⟨gb317, 0, none⟩ = some (.int .u8 t301) := (blk_cell BK317.out 0).trans rfl; have hcz25_1 : w16.cell? ⟨gb317, 1, none⟩ = some (.int .u16 t302) := (blk_cell BK317.out 1).trans rfl; have hcz25_2 : w16.cell? ⟨gb317, 2, none⟩ = some (.bool t303) := (blk_cell BK317.out 2).trans rfl; have hcz25_3 : w16.cell? ⟨gb317, 3, none⟩ = some (.bool t304) := (blk_cell BK317.out 3).trans rfl; have hcz25_4 : w16.cell? ⟨gb317, 4, none⟩ = some (.int .i64 t305) := (blk_cell BK317.out 4).trans rfl; have hcz25_5 : w16.cell? ⟨gb317, 5, none⟩ = some (.int .u8 t306) := (blk_cell BK317.out 5).trans rfl; have hcz25_6 : w16.cell? ⟨gb317, 6, none⟩ = some (.int .u8 t307) := (blk_cell BK317.out 6).trans rfl; have hcz25_7 : w16.cell? ⟨gb317, 7, none⟩ = some (.int .u32 t308) := (blk_cell BK317.out 7).trans rfl; have hcz25_8 : w16.cell? ⟨gb317, 8, none⟩ = some (.int .u32 t309) := (blk_cell BK317.out 8).trans rfl; have hcz25_9 : w16.cell? ⟨gb317, 9, none⟩ = some (.slice Ao12 t310.length co12) := (blk_cell BK317.out 9).trans rfl; have hcz25_10 : w16.cell? ⟨gb317, 10, none⟩ = some (.slice Ao13 t313.length co13) := (blk_cell BK317.out 10).trans rfl; have hfz25_0 := blk_frozen BK317.out 0; have hfz25_1 := blk_frozen BK317.out 1; have hfz25_2 := blk_frozen BK317.out 2; have hfz25_3 := blk_frozen BK317.out 3; have hfz25_4 := blk_frozen BK317.out 4; have hfz25_5 := blk_frozen BK317.out 5; have hfz25_6 := blk_frozen BK317.out 6; have hfz25_7 := blk_frozen BK317.out 7; have hfz25_8 := blk_frozen BK317.out 8; have hfz25_9 := blk_frozen BK317.out 9; have hfz25_10 := blk_frozen BK317.out 10; have hcz26_0 : w16.cell? ⟨gb334, 0, none⟩ = some (.int .u8 0) := (blk_cell BK334.out 0).trans rfl; have hcz26_1 : w16.cell? ⟨gb334, 1, none⟩ = some (.int .u16 0) := (blk_cell BK334.out 1).trans rfl; have hcz26_2 : w16.cell? ⟨gb334, 2, none⟩ = some (.bool false) := (blk_cell BK334.out 2).trans rfl; have hcz26_3 : w16.cell? ⟨gb334, 3, none⟩ = some (.bool false) := (blk_cell BK334.out 3).trans rfl; have hcz26_4 : w16.cell? ⟨gb334, 4, none⟩ = some (.int .i64 0) := (blk_cell BK334.out 4).trans rfl; have hcz26_5 : w16.cell? ⟨gb334, 5, none⟩ = some (.int .u8 0) := (blk_cell BK334.out 5).trans rfl; have hcz26_6 : w16.cell? ⟨gb334, 6, none⟩ = some (.int .u8 0) := (blk_cell BK334.out 6).trans rfl; have hcz26_7 : w16.cell? ⟨gb334, 7, none⟩ = some (.int .u32 0) := (blk_cell BK334.out 7).trans rfl; have hcz26_8 : w16.cell? ⟨gb334, 8, none⟩ = some (.int .u32 0) := (blk_cell BK334.out 8).trans rfl; have hcz26_9 : w16.cell? ⟨gb334, 9, none⟩ = some (.slice none 0 0) := (blk_cell BK334.out 9).trans rfl; have hcz26_10 : w16.cell? ⟨gb334, 10, none⟩ = some (.slice none 0 0) := (blk_cell BK334.out 10).trans rfl; have hfz26_0 := blk_frozen BK334.out 0; have hfz26_1 := blk_frozen BK334.out 1; have hfz26_2 := blk_frozen BK334.out 2; have hfz26_3 := blk_frozen BK334.out 3; have hfz26_4 := blk_frozen BK334.out 4; have hfz26_5 := blk_frozen BK334.out 5; have hfz26_6 := blk_frozen BK334.out 6; have hfz26_7 := blk_frozen BK334.out 7; have hfz26_8 := blk_frozen BK334.out 8; have hfz26_9 := blk_frozen BK334.out 9; have hfz26_10 := blk_frozen BK334.out 10) | (go_at_call 21; (with_reducible refine (towroperef06_Same.calls t301 t302 t303 t304 t305 t306 t307 t308 t309 _ _ t310 _ _ t313 t318 t319 t320 t321 t322 t323 t324 t325 t326 _ _ t327 _ _ t330 t336 _ ?side1 ?side2 ?side3 ?side4 ?side5 ?side6 ?side7 ?side8 A23.out).mono ?_); (case side1 => refine (Kd.R_reads' (e := 5) (base := w.heap.size) (ok := fun k_ => some k_ ≠ (.slice Ao13 t313.length co13 : Value).ownBlock) (n := t310.length) (c := co12) ?_).2.2; exact (by (with_reducible repeat (first | apply Kd.R_alloc | apply Kd.R_drewN | apply Kd.R_drew)); exact (Kd.R_mono (Kd.R_far (p := ⟨gb334, 10, none⟩) (Kd.R_far (p := ⟨gb334, 9, none⟩) (Kd.R_far (p := ⟨gb334, 8, none⟩) (Kd.R_far (p := ⟨gb334, 7, none⟩) (Kd.R_far (p := ⟨gb334, 6, none⟩) (Kd.R_far (p := ⟨gb334, 5, none⟩) (Kd.R_far (p := ⟨gb334, 4, none⟩) (Kd.R_far (p := ⟨gb334, 3, none⟩) (Kd.R_far (p := ⟨gb334, 2, none⟩) (Kd.R_far (p := ⟨gb334, 1, none⟩) (Kd.R_far (p := ⟨gb334, 0, none⟩) (Kd.R_types HO312.out BK334.out (by decide)) (fun _ hk => hk.2) (.int .u8 t318)) (fun _ hk => hk.2) (.int .u16 t319)) (fun _ hk => hk.2) (.bool t320)) (fun _ hk => hk.2) (.bool t321)) (fun _ hk => hk.2) (.int .i64 t322)) (fun _ hk => hk.2) (.int .u8 t323)) (fun _ hk => hk.2) (.int .u8 t324)) (fun _ hk => hk.2) (.int .u32 t325)) (fun _ hk => hk.2) (.int .u32 t326)) (fun _ hk => hk.2) (.slice Ao19 t327.length co19)) (fun _ hk => hk.2) (.slice Ao20 t330.length co20)) (fun _ h_ => h_.1)))); (case side2 => exact (Kd.R_reads' HO312.out).2.1); (case side3 => refine (Kd.R_reads' (e := 5) (base := w.heap.size) (ok := fun k_ => some k_ ≠ (.slice Ao12 t310.length co12 : Value).ownBlock) (n := t313.length) (c := co13) ?_).2.2; exact (by (with_reducible repeat (first | apply Kd.R_alloc | apply Kd.R_drewN | apply Kd.R_drew)); exact (Kd.R_mono (Kd.R_far (p := ⟨gb334, 10, none⟩) (Kd.R_far (p := ⟨gb334, 9, none⟩) (Kd.R_far (p := ⟨gb334, 8, none⟩) (Kd.R_far (p := ⟨gb334, 7, none⟩) (Kd.R_far (p := ⟨gb334, 6, none⟩) (Kd.R_far (p := ⟨gb334, 5, none⟩) (Kd.R_far (p := ⟨gb334, 4, none⟩) (Kd.R_far (p := ⟨gb334, 3, none⟩) (Kd.R_far (p := ⟨gb334, 2, none⟩) (Kd.R_far (p := ⟨gb334, 1, none⟩) (Kd.R_far (p := ⟨gb334, 0, none⟩) (Kd.R_types HO315.out BK334.out (by decide)) (fun _ hk => hk.2) (.int .u8 t318)) (fun _ hk => hk.2) (.int .u16 t319)) (fun _ hk => hk.2) (.bool t320)) (fun _ hk => hk.2) (.bool t321)) (fun _ hk => hk.2) (.int .i64 t322)) (fun _ hk => hk.2) (.int .u8 t323)) (fun _ hk => hk.2) (.int .u8 t324)) (fun _ hk => hk.2) (.int .u32 t325)) (fun _ hk => hk.2) (.int .u32 t326)) (fun _ hk => hk.2) (.slice Ao19 t327.length co19)) (fun _ hk => hk.2) (.slice Ao20 t330.length co20)) (fun _ h_ => h_.1)))); (case side4 => exact (Kd.R_reads' HO315.out).2.1); (case side5 => refine (Kd.V_reads' (e := 5) (base := w.heap.size) (ok := fun k_ => ((some k_ ≠ (.slice Ao12 t310.length co12 : Value).ownBlock ∧ (some k_ ≠ (.slice Ao13 t313.length co13 : Value).ownBlock ∧ k_ ≠ gb317)) ∧ k_ ≠ gb334)) (n := t327.length) (c := co19) ?_).2.2; exact (by (with_reducible repeat (first | apply Kd.V_alloc | apply Kd.V_drewN | apply Kd.V_drew)); exact (Kd.V_mono (Kd.V_far (p := ⟨gb334, 10, none⟩) (Kd.V_far (p := ⟨gb334, 9, none⟩) (Kd.V_far (p := ⟨gb334, 8, none⟩) (Kd.V_far (p := ⟨gb334, 7, none⟩) (Kd.V_far (p := ⟨gb334, 6, none⟩) (Kd.V_far (p := ⟨gb334, 5, none⟩) (Kd.V_far (p := ⟨gb334, 4, none⟩) (Kd.V_far (p := ⟨gb334, 3, none⟩) (Kd.V_far (p := ⟨gb334, 2, none⟩) (Kd.V_far (p := ⟨gb334, 1, none⟩) (Kd.V_far (p := ⟨gb334, 0, none⟩) (Kd.V_mono HO329.out (fun k_ hk => (⟨hk, hk.2⟩ : _ ∧ k_ ≠ gb334))) (fun _ hk => hk.2) (.int .u8 t318)) (fun _ hk => hk.2) (.int .u16 t319)) (fun _ hk => hk.2) (.bool t320)) (fun _ hk => hk.2) (.bool t321)) (fun _ hk => hk.2) (.int .i64 t322)) (fun _ hk => hk.2) (.int .u8 t323)) (fun _ hk => hk.2) (.int .u8 t324)) (fun _ hk => hk.2) (.int .u32 t325)) (fun _ hk => hk.2) (.int .u32 t326)) (fun _ hk => hk.2) (.slice Ao19 t327.length co19)) (fun _ hk => hk.2) (.slice Ao20 t330.length co20)) (fun _ h_ => h_.1)))); (case side6 => exact (Kd.V_reads' HO329.out).2.1); (case side7 => refine (Kd.V_reads' (e := 5) (base := w.heap.size) (ok := fun k_ => ((some k_ ≠ (.slice Ao12 t310.length co12 : Value).ownBlock ∧ (some k_ ≠ (.slice Ao13 t313.length co13 : Value).ownBlock ∧ k_ ≠ gb317)) ∧ k_ ≠ gb334)) (n := t330.length) (c := co20) ?_).2.2; exact (by (with_reducible repeat (first | apply Kd.V_alloc | apply Kd.V_drewN | apply Kd.V_drew)); exact (Kd.V_mono (Kd.V_far (p := ⟨gb334, 10, none⟩) (Kd.V_far (p := ⟨gb334, 9, none⟩) (Kd.V_far (p := ⟨gb334, 8, none⟩) (Kd.V_far (p := ⟨gb334, 7, none⟩) (Kd.V_far (p := ⟨gb334, 6, none⟩) (Kd.V_far (p := ⟨gb334, 5, none⟩) (Kd.V_far (p := ⟨gb334, 4, none⟩) (Kd.V_far (p := ⟨gb334, 3, none⟩) (Kd.V_far (p := ⟨gb334, 2, none⟩) (Kd.V_far (p := ⟨gb334, 1, none⟩) (Kd.V_far (p := ⟨gb334, 0, none⟩) (Kd.V_mono HO332.out (fun k_ hk => (⟨hk, hk.2⟩ : _ ∧ k_ ≠ gb334))) (fun _ hk => hk.2) (.int .u8 t318)) (fun _ hk => hk.2) (.int .u16 t319)) (fun _ hk => hk.2) (.bool t320)) (fun _ hk => hk.2) (.bool t321)) (fun _ hk => hk.2) (.int .i64 t322)) (fun _ hk => hk.2) (.int .u8 t323)) (fun _ hk => hk.2) (.int .u8 t324)) (fun _ hk => hk.2) (.int .u32 t325)) (fun _ hk => hk.2) (.int .u32 t326)) (fun _ hk => hk.2) (.slice Ao19 t327.length co19)) (fun _ hk => hk.2) (.slice Ao20 t330.length co20)) (fun _ h_ => h_.1)))); (case side8 => exact (Kd.V_reads' HO332.out).2.1); rintro e w27 ⟨rfl, hb⟩; have n0_ := Aside0.mk (Kd.R_below (by (with_reducible repeat (first | apply Kd.R_alloc | apply Kd.R_drewN | apply Kd.R_drew)); exact (Kd.R_mono (Kd.R_far (p := ⟨gb334, 10, none⟩) (Kd.R_far (p := ⟨gb334, 9, none⟩) (Kd.R_far (p := ⟨gb334, 8, none⟩) (Kd.R_far (p := ⟨gb334, 7, none⟩) (Kd.R_far (p := ⟨gb334, 6, none⟩) (Kd.R_far (p := ⟨gb334, 5, none⟩) (Kd.R_far (p := ⟨gb334, 4, none⟩) (Kd.R_far (p := ⟨gb334, 3, none⟩) (Kd.R_far (p := ⟨gb334, 2, none⟩) (Kd.R_far (p := ⟨gb334, 1, none⟩) (Kd.R_far (p := ⟨gb334, 0, none⟩) (Kd.R_types HO312.out BK334.out (by decide)) (fun _ hk => hk.2) (.int .u8 t318)) (fun _ hk => hk.2) (.int .u16 t319)) (fun _ hk => hk.2) (.bool t320)) (fun _ hk => hk.2) (.bool t321)) (fun _ hk => hk.2) (.int .i64 t322)) (fun _ hk => hk.2) (.int .u8 t323)) (fun _ hk => hk.2) (.int .u8 t324)) (fun _ hk => hk.2) (.int .u32 t325)) (fun _ hk => hk.2) (.int .u32 t326)) (fun _ hk => hk.2) (.slice Ao19 t327.length co19)) (fun _ hk => hk.2) (.slice Ao20 t330.length co20)) (fun _ h_ => h_.1))) hb); have n1_ := Aside0.mk (Kd.R_below (by (with_reducible repeat (first | apply Kd.R_alloc | apply Kd.R_drewN | apply Kd.R_drew)); exact (Kd.R_mono (Kd.R_far (p := ⟨gb334, 10, none⟩) (Kd.R_far (p := ⟨gb334, 9, none⟩) (Kd.R_far (p := ⟨gb334, 8, none⟩) (Kd.R_far (p := ⟨gb334, 7, none⟩) (Kd.R_far (p := ⟨gb334, 6, none⟩) (Kd.R_far (p := ⟨gb334, 5, none⟩) (Kd.R_far (p := ⟨gb334, 4, none⟩) (Kd.R_far (p := ⟨gb334, 3, none⟩) (Kd.R_far (p := ⟨gb334, 2, none⟩) (Kd.R_far (p := ⟨gb334, 1, none⟩) (Kd.R_far (p := ⟨gb334, 0, none⟩) (Kd.R_types HO315.out BK334.out (by decide)) (fun _ hk => hk.2) (.int .u8 t318)) (fun _ hk => hk.2) (.int .u16 t319)) (fun _ hk => hk.2) (.bool t320)) (fun _ hk => hk.2) (.bool t321)) (fun _ hk => hk.2) (.int .i64 t322)) (fun _ hk => hk.2) (.int .u8 t323)) (fun _ hk => hk.2) (.int .u8 t324)) (fun _ hk => hk.2) (.int .u32 t325)) (fun _ hk => hk.2) (.int .u32 t326)) (fun _ hk => hk.2) (.slice Ao19 t327.length co19)) (fun _ hk => hk.2) (.slice Ao20 t330.length co20)) (fun _ h_ => h_.1))) hb); have n2_ := Aside0.mk (Kd.V_below (by (with_reducible repeat (first | apply Kd.V_alloc | apply Kd.V_drewN | apply Kd.V_drew)); exact (Kd.V_mono (Kd.V_far (p := ⟨gb334, 10, none⟩) (Kd.V_far (p := ⟨gb334, 9, none⟩) (Kd.V_far (p := ⟨gb334, 8, none⟩) (Kd.V_far (p := ⟨gb334, 7, none⟩) (Kd.V_far (p := ⟨gb334, 6, none⟩) (Kd.V_far (p := ⟨gb334, 5, none⟩) (Kd.V_far (p := ⟨gb334, 4, none⟩) (Kd.V_far (p := ⟨gb334, 3, none⟩) (Kd.V_far (p := ⟨gb334, 2, none⟩) (Kd.V_far (p := ⟨gb334, 1, none⟩) (Kd.V_far (p := ⟨gb334, 0, none⟩) (Kd.V_mono HO329.out (fun k_ hk => (⟨hk, hk.2⟩ : _ ∧ k_ ≠ gb334))) (fun _ hk => hk.2) (.int .u8 t318)) (fun _ hk => hk.2) (.int .u16 t319)) (fun _ hk => hk.2) (.bool t320)) (fun _ hk => hk.2) (.bool t321)) (fun _ hk => hk.2) (.int .i64 t322)) (fun _ hk => hk.2) (.int .u8 t323)) (fun _ hk => hk.2) (.int .u8 t324)) (fun _ hk => hk.2) (.int .u32 t325)) (fun _ hk => hk.2) (.int .u32 t326)) (fun _ hk => hk.2) (.slice Ao19 t327.length co19)) (fun _ hk => hk.2) (.slice Ao20 t330.length co20)) (fun _ h_ => h_.1))) hb); have n3_ := Aside0.mk (Kd.V_below (by (with_reducible repeat (first | apply Kd.V_alloc | apply Kd.V_drewN | apply Kd.V_drew)); exact (Kd.V_mono (Kd.V_far (p := ⟨gb334, 10, none⟩) (Kd.V_far (p := ⟨gb334, 9, none⟩) (Kd.V_far (p := ⟨gb334, 8, none⟩) (Kd.V_far (p := ⟨gb334, 7, none⟩) (Kd.V_far (p := ⟨gb334, 6, none⟩) (Kd.V_far (p := ⟨gb334, 5, none⟩) (Kd.V_far (p := ⟨gb334, 4, none⟩) (Kd.V_far (p := ⟨gb334, 3, none⟩) (Kd.V_far (p := ⟨gb334, 2, none⟩) (Kd.V_far (p := ⟨gb334, 1, none⟩) (Kd.V_far (p := ⟨gb334, 0, none⟩) (Kd.V_mono HO332.out (fun k_ hk => (⟨hk, hk.2⟩ : _ ∧ k_ ≠ gb334))) (fun _ hk => hk.2) (.int .u8 t318)) (fun _ hk => hk.2) (.int .u16 t319)) (fun _ hk => hk.2) (.bool t320)) (fun _ hk => hk.2) (.bool t321)) (fun _ hk => hk.2) (.int .i64 t322)) (fun _ hk => hk.2) (.int .u8 t323)) (fun _ hk => hk.2) (.int .u8 t324)) (fun _ hk => hk.2) (.int .u32 t325)) (fun _ hk => hk.2) (.int .u32 t326)) (fun _ hk => hk.2) (.slice Ao19 t327.length co19)) (fun _ hk => hk.2) (.slice Ao20 t330.length co20)) (fun _ h_ => h_.1))) hb); have n4_ := Aside0.mk (blk_below (g := gb317) (o := .cells #[.int .u8 t301, .int .u16 t302, .bool t303, .bool t304, .int .i64 t305, .int .u8 t306, .int .u8 t307, .int .u32 t308, .int .u32 t309, .slice Ao12 t310.length co12, .slice Ao13 t313.length co13] 37 (0, 0)) (by (with_reducible repeat (first | refine blk_drewN ?_ _ | refine blk_drew ?_ | refine blk_alloc ?_ _)); refine blk_far ?_ NB317_334.out _; (with_reducible repeat (first | refine blk_drewN ?_ _ | refine blk_drew ?_ | refine blk_alloc ?_ _)); refine blk_far ?_ NB317_334.out _; (with_reducible repeat (first | refine blk_drewN ?_ _ | refine blk_drew ?_ | refine blk_alloc ?_ _)); refine blk_far ?_ NB317_334.out _; (with_reducible repeat (first | refine blk_drewN ?_ _ | refine blk_drew ?_ | refine blk_alloc ?_ _)); refine blk_far ?_ NB317_334.out _; (with_reducible repeat (first | refine blk_drewN ?_ _ | refine blk_drew ?_ | refine blk_alloc ?_ _)); refine blk_far ?_ NB317_334.out _; (with_reducible repeat (first | refine blk_drewN ?_ _ | refine blk_drew ?_ | refine blk_alloc ?_ _)); refine blk_far ?_ NB317_334.out _; (with_reducible repeat (first | refine blk_drewN ?_ _ | refine blk_drew ?_ | refine blk_alloc ?_ _)); refine blk_far ?_ NB317_334.out _; (with_reducible repeat (first | refine blk_drewN ?_ _ | refine blk_drew ?_ | refine blk_alloc ?_ _)); refine blk_far ?_ NB317_334.out _; (with_reducible repeat (first | refine blk_drewN ?_ _ | refine blk_drew ?_ | refine blk_alloc ?_ _)); refine blk_far ?_ NB317_334.out _; (with_reducible repeat (first | refine blk_drewN ?_ _ | refine blk_drew ?_ | refine blk_alloc ?_ _)); refine blk_far ?_ NB317_334.out _; (with_reducible repeat (first | refine blk_drewN ?_ _ | refine blk_drew ?_ | refine blk_alloc ?_ _)); refine blk_far ?_ NB317_334.out _; (with_reducible repeat (first | refine blk_drewN ?_ _ | refine blk_drew ?_ | refine blk_alloc ?_ _)); exact BK317.out) hb); have n5_ := Aside0.mk (blk_below (g := gb334) (o := .cells #[.int .u8 t318, .int .u16 t319, .bool t320, .bool t321, .int .i64 t322, .int .u8 t323, .int .u8 t324, .int .u32 t325, .int .u32 t326, .slice Ao19 t327.length co19, .slice Ao20 t330.length co20] 37 (0, 0)) (by (with_reducible repeat (first | refine blk_drewN ?_ _ | refine blk_drew ?_ | refine blk_alloc ?_ _)); refine blk_put (cs := #[.int .u8 t318, .int .u16 t319, .bool t320, .bool t321, .int .i64 t322, .int .u8 t323, .int .u8 t324, .int .u32 t325, .int .u32 t326, .slice Ao19 t327.length co19, .slice none 0 0]) ?_ 10 _ rfl; (with_reducible repeat (first | refine blk_drewN ?_ _ | refine blk_drew ?_ | refine blk_alloc ?_ _)); refine blk_put (cs := #[.int .u8 t318, .int .u16 t319, .bool t320, .bool t321, .int .i64 t322, .int .u8 t323, .int .u8 t324, .int .u32 t325, .int .u32 t326, .slice none 0 0, .slice none 0 0]) ?_ 9 _ rfl; (with_reducible repeat (first | refine blk_drewN ?_ _ | refine blk_drew ?_ | refine blk_alloc ?_ _)); refine blk_put (cs := #[.int .u8 t318, .int .u16 t319, .bool t320, .bool t321, .int .i64 t322, .int .u8 t323, .int .u8 t324, .int .u32 t325, .int .u32 0, .slice none 0 0, .slice none 0 0]) ?_ 8 _ rfl; (with_reducible repeat (first | refine blk_drewN ?_ _ | refine blk_drew ?_ | refine blk_alloc ?_ _)); refine blk_put (cs := #[.int .u8 t318, .int .u16 t319, .bool t320, .bool t321, .int .i64 t322, .int .u8 t323, .int .u8 t324, .int .u32 0, .int .u32 0, .slice none 0 0, .slice none 0 0]) ?_ 7 _ rfl; (with_reducible repeat (first | refine blk_drewN ?_ _ | refine blk_drew ?_ | refine blk_alloc ?_ _)); refine blk_put (cs := #[.int .u8 t318, .int .u16 t319, .bool t320, .bool t321, .int .i64 t322, .int .u8 t323, .int .u8 0, .int .u32 0, .int .u32 0, .slice none 0 0, .slice none 0 0]) ?_ 6 _ rfl; (with_reducible repeat (first | refine blk_drewN ?_ _ | refine blk_drew ?_ | refine blk_alloc ?_ _)); refine blk_put (cs := #[.int .u8 t318, .int .u16 t319, .bool t320, .bool t321, .int .i64 t322, .int .u8 0, .int .u8 0, .int .u32 0, .int .u32 0, .slice none 0 0, .slice none 0 0]) ?_ 5 _ rfl; (with_reducible repeat (first | refine blk_drewN ?_ _ | refine blk_drew ?_ | refine blk_alloc ?_ _)); refine blk_put (cs := #[.int .u8 t318, .int .u16 t319, .bool t320, .bool t321, .int .i64 0, .int .u8 0, .int .u8 0, .int .u32 0, .int .u32 0, .slice none 0 0, .slice none 0 0]) ?_ 4 _ rfl; (with_reducible repeat (first | refine blk_drewN ?_ _ | refine blk_drew ?_ | refine blk_alloc ?_ _)); refine blk_put (cs := #[.int .u8 t318, .int .u16 t319, .bool t320, .bool false, .int .i64 0, .int .u8 0, .int .u8 0, .int .u32 0, .int .u32 0, .slice none 0 0, .slice none 0 0]) ?_ 3 _ rfl; (with_reducible repeat (first | refine blk_drewN ?_ _ | refine blk_drew ?_ | refine blk_alloc ?_ _)); refine blk_put (cs := #[.int .u8 t318, .int .u16 t319, .bool false, .bool false, .int .i64 0, .int .u8 0, .int .u8 0, .int .u32 0, .int .u32 0, .slice none 0 0, .slice none 0 0]) ?_ 2 _ rfl; (with_reducible repeat (first | refine blk_drewN ?_ _ | refine blk_drew ?_ | refine blk_alloc ?_ _)); refine blk_put (cs := #[.int .u8 t318, .int .u16 0, .bool false, .bool false, .int .i64 0, .int .u8 0, .int .u8 0, .int .u32 0, .int .u32 0, .slice none 0 0, .slice none 0 0]) ?_ 1 _ rfl; (with_reducible repeat (first | refine blk_drewN ?_ _ | refine blk_drew ?_ | refine blk_alloc ?_ _)); refine blk_put (cs := #[.int .u8 0, .int .u16 0, .bool false, .bool false, .int .i64 0, .int .u8 0, .int .u8 0, .int .u32 0, .int .u32 0, .slice none 0 0, .slice none 0 0]) ?_ 0 _ rfl; (with_reducible repeat (first | refine blk_drewN ?_ _ | refine blk_drew ?_ | refine blk_alloc ?_ _)); exact BK334.out) hb); have n6_ := Aside0.mk (below_step (by repeat (first | (with_reducible first | exact HB.out | apply below_alloc | apply pw_below_drewN | apply below_drew1 | refine below_set ?_ GE317.out | refine below_set ?_ GE334.out) | exact HB.out)) hb); clear HO312; clear HO315; clear HO329; clear HO332; clear BK317; clear BK334; clear HB; have HO312 := n0_; have HO315 := n1_; have HO329 := n2_; have HO332 := n3_; have BK317 := n4_; have BK334 := n5_; have HB := n6_; clear n0_ n1_ n2_ n3_ n4_ n5_ n6_; (try clear hb); (try clear hb2); (try clear hk); (try clear hi)))
    go_meet
    case rel => exact ⟨_, (!t336), (by first | rfl | (simp; done) | (simp [*]; done)), H', ⟨by first | omega | exact Nat.le_refl _⟩, ⟨by (with_reducible repeat (first | apply Kd.R_alloc | apply Kd.R_drewN | apply Kd.R_drew)); exact HO312.out⟩, ⟨by (with_reducible repeat (first | apply Kd.R_alloc | apply Kd.R_drewN | apply Kd.R_drew)); exact HO315.out⟩, ⟨by (with_reducible repeat (first | apply Kd.V_alloc | apply Kd.V_drewN | apply Kd.V_drew)); exact Kd.V_mono HO329.out (fun _ hk => ⟨hk.1.1, ⟨hk.1.2.1, ⟨hk.1.2.2, hk.2⟩⟩⟩)⟩, ⟨by (with_reducible repeat (first | apply Kd.V_alloc | apply Kd.V_drewN | apply Kd.V_drew)); exact Kd.V_mono HO332.out (fun _ hk => ⟨hk.1.1, ⟨hk.1.2.1, ⟨hk.1.2.2, hk.2⟩⟩⟩)⟩, ⟨by (with_reducible repeat (first | refine blk_drewN ?_ _ | refine blk_drew ?_ | refine blk_alloc ?_ _)); exact BK317.out⟩, ⟨by (with_reducible repeat (first | refine blk_drewN ?_ _ | refine blk_drew ?_ | refine blk_alloc ?_ _)); exact BK334.out⟩, ⟨by repeat (first | (with_reducible first | exact HB.out | apply below_alloc | apply pw_below_drewN | apply below_drew1 | refine below_set ?_ GE317.out | refine below_set ?_ GE334.out) | exact HB.out)⟩⟩
   ·
    rw [if_neg c22] at H
    have c22b0 : (t335 == t333) = false := beq_eq_false_iff_ne.mpr c22
    have c22b1 : (t335 != t333) = true := bne_iff_ne.mpr c22
    (first | rw [c22b0] | (simp only [i64_w, i32_w]; rw [c22b0]) | skip)
    have H' := Aside0.mk H
    clear H
    go_wp2_with (first | ((with_reducible refine gate_callee (f := 38) rfl ?_); refine goesL_ (some 26) rfl rfl Try.func38 (by kernel_rfl) rfl #[.int .i64 t316] rfl (by (try simp only [List.map_toArray, List.map_cons, List.map_nil]); first | done | rfl | (simp only [List.length_drop, List.length_take]; rfl) | (go_simp; done) | (go_simp; omega)) ?_; (with_reducible refine (towropelaw06_code.calls t316 t335 _ A21.out).mono ?_); rintro e w' ⟨rfl, ⟨nd, rfl⟩⟩; refine ⟨_, rfl, ?_⟩))
    go_meet
    case rel => exact ⟨_, (true), (by first | rfl | (simp; done) | (simp [*]; done)), H', ⟨by first | omega | exact Nat.le_refl _⟩, ⟨by (with_reducible repeat (first | apply Kd.R_alloc | apply Kd.R_drewN | apply Kd.R_drew)); exact Kd.R_mono (Kd.R_far (p := ⟨gb334, 10, none⟩) (Kd.R_far (p := ⟨gb334, 9, none⟩) (Kd.R_far (p := ⟨gb334, 8, none⟩) (Kd.R_far (p := ⟨gb334, 7, none⟩) (Kd.R_far (p := ⟨gb334, 6, none⟩) (Kd.R_far (p := ⟨gb334, 5, none⟩) (Kd.R_far (p := ⟨gb334, 4, none⟩) (Kd.R_far (p := ⟨gb334, 3, none⟩) (Kd.R_far (p := ⟨gb334, 2, none⟩) (Kd.R_far (p := ⟨gb334, 1, none⟩) (Kd.R_far (p := ⟨gb334, 0, none⟩) (Kd.R_types HO312.out BK334.out (by decide)) (fun _ hk => hk.2) (.int .u8 t318)) (fun _ hk => hk.2) (.int .u16 t319)) (fun _ hk => hk.2) (.bool t320)) (fun _ hk => hk.2) (.bool t321)) (fun _ hk => hk.2) (.int .i64 t322)) (fun _ hk => hk.2) (.int .u8 t323)) (fun _ hk => hk.2) (.int .u8 t324)) (fun _ hk => hk.2) (.int .u32 t325)) (fun _ hk => hk.2) (.int .u32 t326)) (fun _ hk => hk.2) (.slice Ao19 t327.length co19)) (fun _ hk => hk.2) (.slice Ao20 t330.length co20)) (fun _ hk => hk.1)⟩, ⟨by (with_reducible repeat (first | apply Kd.R_alloc | apply Kd.R_drewN | apply Kd.R_drew)); exact Kd.R_mono (Kd.R_far (p := ⟨gb334, 10, none⟩) (Kd.R_far (p := ⟨gb334, 9, none⟩) (Kd.R_far (p := ⟨gb334, 8, none⟩) (Kd.R_far (p := ⟨gb334, 7, none⟩) (Kd.R_far (p := ⟨gb334, 6, none⟩) (Kd.R_far (p := ⟨gb334, 5, none⟩) (Kd.R_far (p := ⟨gb334, 4, none⟩) (Kd.R_far (p := ⟨gb334, 3, none⟩) (Kd.R_far (p := ⟨gb334, 2, none⟩) (Kd.R_far (p := ⟨gb334, 1, none⟩) (Kd.R_far (p := ⟨gb334, 0, none⟩) (Kd.R_types HO315.out BK334.out (by decide)) (fun _ hk => hk.2) (.int .u8 t318)) (fun _ hk => hk.2) (.int .u16 t319)) (fun _ hk => hk.2) (.bool t320)) (fun _ hk => hk.2) (.bool t321)) (fun _ hk => hk.2) (.int .i64 t322)) (fun _ hk => hk.2) (.int .u8 t323)) (fun _ hk => hk.2) (.int .u8 t324)) (fun _ hk => hk.2) (.int .u32 t325)) (fun _ hk => hk.2) (.int .u32 t326)) (fun _ hk => hk.2) (.slice Ao19 t327.length co19)) (fun _ hk => hk.2) (.slice Ao20 t330.length co20)) (fun _ hk => hk.1)⟩, ⟨by (with_reducible repeat (first | apply Kd.V_alloc | apply Kd.V_drewN | apply Kd.V_drew)); exact Kd.V_mono (Kd.V_far (p := ⟨gb334, 10, none⟩) (Kd.V_far (p := ⟨gb334, 9, none⟩) (Kd.V_far (p := ⟨gb334, 8, none⟩) (Kd.V_far (p := ⟨gb334, 7, none⟩) (Kd.V_far (p := ⟨gb334, 6, none⟩) (Kd.V_far (p := ⟨gb334, 5, none⟩) (Kd.V_far (p := ⟨gb334, 4, none⟩) (Kd.V_far (p := ⟨gb334, 3, none⟩) (Kd.V_far (p := ⟨gb334, 2, none⟩) (Kd.V_far (p := ⟨gb334, 1, none⟩) (Kd.V_far (p := ⟨gb334, 0, none⟩) (Kd.V_mono HO329.out (fun k_ hk => (⟨hk, hk.2⟩ : _ ∧ k_ ≠ gb334))) (fun _ hk => hk.2) (.int .u8 t318)) (fun _ hk => hk.2) (.int .u16 t319)) (fun _ hk => hk.2) (.bool t320)) (fun _ hk => hk.2) (.bool t321)) (fun _ hk => hk.2) (.int .i64 t322)) (fun _ hk => hk.2) (.int .u8 t323)) (fun _ hk => hk.2) (.int .u8 t324)) (fun _ hk => hk.2) (.int .u32 t325)) (fun _ hk => hk.2) (.int .u32 t326)) (fun _ hk => hk.2) (.slice Ao19 t327.length co19)) (fun _ hk => hk.2) (.slice Ao20 t330.length co20)) (fun _ hk => ⟨hk.1.1.1, ⟨hk.1.1.2.1, ⟨hk.1.1.2.2, hk.1.2⟩⟩⟩)⟩, ⟨by (with_reducible repeat (first | apply Kd.V_alloc | apply Kd.V_drewN | apply Kd.V_drew)); exact Kd.V_mono (Kd.V_far (p := ⟨gb334, 10, none⟩) (Kd.V_far (p := ⟨gb334, 9, none⟩) (Kd.V_far (p := ⟨gb334, 8, none⟩) (Kd.V_far (p := ⟨gb334, 7, none⟩) (Kd.V_far (p := ⟨gb334, 6, none⟩) (Kd.V_far (p := ⟨gb334, 5, none⟩) (Kd.V_far (p := ⟨gb334, 4, none⟩) (Kd.V_far (p := ⟨gb334, 3, none⟩) (Kd.V_far (p := ⟨gb334, 2, none⟩) (Kd.V_far (p := ⟨gb334, 1, none⟩) (Kd.V_far (p := ⟨gb334, 0, none⟩) (Kd.V_mono HO332.out (fun k_ hk => (⟨hk, hk.2⟩ : _ ∧ k_ ≠ gb334))) (fun _ hk => hk.2) (.int .u8 t318)) (fun _ hk => hk.2) (.int .u16 t319)) (fun _ hk => hk.2) (.bool t320)) (fun _ hk => hk.2) (.bool t321)) (fun _ hk => hk.2) (.int .i64 t322)) (fun _ hk => hk.2) (.int .u8 t323)) (fun _ hk => hk.2) (.int .u8 t324)) (fun _ hk => hk.2) (.int .u32 t325)) (fun _ hk => hk.2) (.int .u32 t326)) (fun _ hk => hk.2) (.slice Ao19 t327.length co19)) (fun _ hk => hk.2) (.slice Ao20 t330.length co20)) (fun _ hk => ⟨hk.1.1.1, ⟨hk.1.1.2.1, ⟨hk.1.1.2.2, hk.1.2⟩⟩⟩)⟩, ⟨by (with_reducible repeat (first | refine blk_drewN ?_ _ | refine blk_drew ?_ | refine blk_alloc ?_ _)); refine blk_far ?_ NB317_334.out _; (with_reducible repeat (first | refine blk_drewN ?_ _ | refine blk_drew ?_ | refine blk_alloc ?_ _)); refine blk_far ?_ NB317_334.out _; (with_reducible repeat (first | refine blk_drewN ?_ _ | refine blk_drew ?_ | refine blk_alloc ?_ _)); refine blk_far ?_ NB317_334.out _; (with_reducible repeat (first | refine blk_drewN ?_ _ | refine blk_drew ?_ | refine blk_alloc ?_ _)); refine blk_far ?_ NB317_334.out _; (with_reducible repeat (first | refine blk_drewN ?_ _ | refine blk_drew ?_ | refine blk_alloc ?_ _)); refine blk_far ?_ NB317_334.out _; (with_reducible repeat (first | refine blk_drewN ?_ _ | refine blk_drew ?_ | refine blk_alloc ?_ _)); refine blk_far ?_ NB317_334.out _; (with_reducible repeat (first | refine blk_drewN ?_ _ | refine blk_drew ?_ | refine blk_alloc ?_ _)); refine blk_far ?_ NB317_334.out _; (with_reducible repeat (first | refine blk_drewN ?_ _ | refine blk_drew ?_ | refine blk_alloc ?_ _)); refine blk_far ?_ NB317_334.out _; (with_reducible repeat (first | refine blk_drewN ?_ _ | refine blk_drew ?_ | refine blk_alloc ?_ _)); refine blk_far ?_ NB317_334.out _; (with_reducible repeat (first | refine blk_drewN ?_ _ | refine blk_drew ?_ | refine blk_alloc ?_ _)); refine blk_far ?_ NB317_334.out _; (with_reducible repeat (first | refine blk_drewN ?_ _ | refine blk_drew ?_ | refine blk_alloc ?_ _)); refine blk_far ?_ NB317_334.out _; (with_reducible repeat (first | refine blk_drewN ?_ _ | refine blk_drew ?_ | refine blk_alloc ?_ _)); exact BK317.out⟩, ⟨by (with_reducible repeat (first | refine blk_drewN ?_ _ | refine blk_drew ?_ | refine blk_alloc ?_ _)); refine blk_put (cs := #[.int .u8 t318, .int .u16 t319, .bool t320, .bool t321, .int .i64 t322, .int .u8 t323, .int .u8 t324, .int .u32 t325, .int .u32 t326, .slice Ao19 t327.length co19, .slice none 0 0]) ?_ 10 _ rfl; (with_reducible repeat (first | refine blk_drewN ?_ _ | refine blk_drew ?_ | refine blk_alloc ?_ _)); refine blk_put (cs := #[.int .u8 t318, .int .u16 t319, .bool t320, .bool t321, .int .i64 t322, .int .u8 t323, .int .u8 t324, .int .u32 t325, .int .u32 t326, .slice none 0 0, .slice none 0 0]) ?_ 9 _ rfl; (with_reducible repeat (first | refine blk_drewN ?_ _ | refine blk_drew ?_ | refine blk_alloc ?_ _)); refine blk_put (cs := #[.int .u8 t318, .int .u16 t319, .bool t320, .bool t321, .int .i64 t322, .int .u8 t323, .int .u8 t324, .int .u32 t325, .int .u32 0, .slice none 0 0, .slice none 0 0]) ?_ 8 _ rfl; (with_reducible repeat (first | refine blk_drewN ?_ _ | refine blk_drew ?_ | refine blk_alloc ?_ _)); refine blk_put (cs := #[.int .u8 t318, .int .u16 t319, .bool t320, .bool t321, .int .i64 t322, .int .u8 t323, .int .u8 t324, .int .u32 0, .int .u32 0, .slice none 0 0, .slice none 0 0]) ?_ 7 _ rfl; (with_reducible repeat (first | refine blk_drewN ?_ _ | refine blk_drew ?_ | refine blk_alloc ?_ _)); refine blk_put (cs := #[.int .u8 t318, .int .u16 t319, .bool t320, .bool t321, .int .i64 t322, .int .u8 t323, .int .u8 0, .int .u32 0, .int .u32 0, .slice none 0 0, .slice none 0 0]) ?_ 6 _ rfl; (with_reducible repeat (first | refine blk_drewN ?_ _ | refine blk_drew ?_ | refine blk_alloc ?_ _)); refine blk_put (cs := #[.int .u8 t318, .int .u16 t319, .bool t320, .bool t321, .int .i64 t322, .int .u8 0, .int .u8 0, .int .u32 0, .int .u32 0, .slice none 0 0, .slice none 0 0]) ?_ 5 _ rfl; (with_reducible repeat (first | refine blk_drewN ?_ _ | refine blk_drew ?_ | refine blk_alloc ?_ _)); refine blk_put (cs := #[.int .u8 t318, .int .u16 t319, .bool t320, .bool t321, .int .i64 0, .int .u8 0, .int .u8 0, .int .u32 0, .int .u32 0, .slice none 0 0, .slice none 0 0]) ?_ 4 _ rfl; (with_reducible repeat (first | refine blk_drewN ?_ _ | refine blk_drew ?_ | refine blk_alloc ?_ _)); refine blk_put (cs := #[.int .u8 t318, .int .u16 t319, .bool t320, .bool false, .int .i64 0, .int .u8 0, .int .u8 0, .int .u32 0, .int .u32 0, .slice none 0 0, .slice none 0 0]) ?_ 3 _ rfl; (with_reducible repeat (first | refine blk_drewN ?_ _ | refine blk_drew ?_ | refine blk_alloc ?_ _)); refine blk_put (cs := #[.int .u8 t318, .int .u16 t319, .bool false, .bool false, .int .i64 0, .int .u8 0, .int .u8 0, .int .u32 0, .int .u32 0, .slice none 0 0, .slice none 0 0]) ?_ 2 _ rfl; (with_reducible repeat (first | refine blk_drewN ?_ _ | refine blk_drew ?_ | refine blk_alloc ?_ _)); refine blk_put (cs := #[.int .u8 t318, .int .u16 0, .bool false, .bool false, .int .i64 0, .int .u8 0, .int .u8 0, .int .u32 0, .int .u32 0, .slice none 0 0, .slice none 0 0]) ?_ 1 _ rfl; (with_reducible repeat (first | refine blk_drewN ?_ _ | refine blk_drew ?_ | refine blk_alloc ?_ _)); refine blk_put (cs := #[.int .u8 0, .int .u16 0, .bool false, .bool false, .int .i64 0, .int .u8 0, .int .u8 0, .int .u32 0, .int .u32 0, .slice none 0 0, .slice none 0 0]) ?_ 0 _ rfl; (with_reducible repeat (first | refine blk_drewN ?_ _ | refine blk_drew ?_ | refine blk_alloc ?_ _)); exact BK334.out⟩, ⟨by repeat (first | (with_reducible first | exact HB.out | apply below_alloc | apply pw_below_drewN | apply below_drew1 | refine below_set ?_ GE317.out | refine below_set ?_ GE334.out) | exact HB.out)⟩⟩
  case rest =>
   clear HC7
   try clear c1
   try clear c2
   try clear c2b0
   try clear c2b1
   try clear p2
   try clear c3
   try clear hcv8
   try clear c10
   try clear c17
   try clear c22
   try clear c22b0
   try clear c22b1
   try clear c24
   try clear hcz11_0
   try clear hcz11_1
   try clear hcz11_10
   try clear hcz11_2
   try clear hcz11_3
   try clear hcz11_4
   try clear hcz11_5
   try clear hcz11_6
   try clear hcz11_7
   try clear hcz11_8
   try clear hcz11_9
   try clear hcz18_0
   try clear hcz18_1
   try clear hcz18_10
   try clear hcz18_2
   try clear hcz18_3
   try clear hcz18_4
   try clear hcz18_5
   try clear hcz18_6
   try clear hcz18_7
   try clear hcz18_8
   try clear hcz18_9
   try clear hcz25_0
   try clear hcz25_1
   try clear hcz25_10
   try clear hcz25_2
   try clear hcz25_3
   try clear hcz25_4
   try clear hcz25_5
   try clear hcz25_6
   try clear hcz25_7
   try clear hcz25_8
   try clear hcz25_9
   try clear hcz26_0
   try clear hcz26_1
   try clear hcz26_10
   try clear hcz26_2
   try clear hcz26_3
   try clear hcz26_4
   try clear hcz26_5
   try clear hcz26_6
   try clear hcz26_7
   try clear hcz26_8
   try clear hcz26_9
   try clear hfz11_0
   try clear hfz11_1
   try clear hfz11_10
   try clear hfz11_2
   try clear hfz11_3
   try clear hfz11_4
   try clear hfz11_5
   try clear hfz11_6
   try clear hfz11_7
   try clear hfz11_8
   try clear hfz11_9
   try clear hfz18_0
   try clear hfz18_1
   try clear hfz18_10
   try clear hfz18_2
   try clear hfz18_3
   try clear hfz18_4
   try clear hfz18_5
   try clear hfz18_6
   try clear hfz18_7
   try clear hfz18_8
   try clear hfz18_9
   try clear hfz25_0
   try clear hfz25_1
   try clear hfz25_10
   try clear hfz25_2
   try clear hfz25_3
   try clear hfz25_4
   try clear hfz25_5
   try clear hfz25_6
   try clear hfz25_7
   try clear hfz25_8
   try clear hfz25_9
   try clear hfz26_0
   try clear hfz26_1
   try clear hfz26_10
   try clear hfz26_2
   try clear hfz26_3
   try clear hfz26_4
   try clear hfz26_5
   try clear hfz26_6
   try clear hfz26_7
   try clear hfz26_8
   try clear hfz26_9
   obtain ⟨kq, x34_6, rfl, HA, HJ6, HO_318009, HO_318010, HO_335009, HO_335010, BK317, BK334, HB⟩ := hcut
   cases kq with
   | zero => exact absurd HA.out (by simp [towropelaw06_IpGets.j0])
   | succ kj6 =>
    have H := HA.out
    clear HA
    simp only [towropelaw06_IpGets.j0] at H
    by_cases c28 : x34_6 = true
    ·
     subst c28
     have H1 : (some false) = some r := by rw [if_pos rfl] at H; exact H
     clear H
     have H := H1
     clear H1
     obtain rfl := Option.some.inj H
     go_wp2
     go_ret
     exact ⟨by first | rfl | (simp [errW_none, errW_some] <;> rfl) | (simp [*, errW_none, errW_some] <;> rfl), by repeat (first | (with_reducible first | exact HB.out | apply below_alloc | apply pw_below_drewN | apply below_drew1 | refine below_set ?_ GE317.out | refine below_set ?_ GE334.out) | exact HB.out)⟩
    ·
     replace c28 := Bool.eq_false_iff.mpr c28
     subst c28
     have H1 : (towropelaw06_IpGets.l0 kj6 l0 (strOfNums l0) 0 t301 t302 t303 t304 t305 t306 t307 t308 t309 t310 t313) = some r := by rw [if_neg (show ¬ (false = true) by decide)] at H; exact H
     clear H
     have H := H1
     clear H1
     have H' := Aside0.mk H
     clear H
     go_wp2
     go_loopg [8] kj6 (fun kq v8 w' => ∃ (x8_2 : Int) (x318009_2 : List Int) (x318010_2 : List Int) (x335009_2 : List Int) (x335010_2 : List Int) (u318009 : Value) (u318010 : Value) (u335009 : Value) (u335010 : Value), v8 = .int .i64 x8_2 ∧ Aside0 (towropelaw06_IpGets.l0 kq l0 (strOfNums l0) x8_2 t301 t302 t303 t304 t305 t306 t307 t308 t309 x318009_2 x318010_2 = some r) ∧ Aside0 (kq ≤ kj6) ∧ Aside0 (Kd.R (Kd.int .u8) 5 w' w.heap.size (fun k_ => some k_ ≠ (u318010 : Value).ownBlock) u318009 x318009_2) ∧ Aside0 (Kd.R (Kd.int .u8) 5 w' w.heap.size (fun k_ => some k_ ≠ (u318009 : Value).ownBlock) u318010 x318010_2) ∧ Aside0 (Kd.V (Kd.int .u8) 5 w' w.heap.size (fun k_ => some k_ ≠ (u318009 : Value).ownBlock ∧ some k_ ≠ (u318010 : Value).ownBlock ∧ k_ ≠ gb317 ∧ k_ ≠ gb334) u335009 x335009_2) ∧ Aside0 (Kd.V (Kd.int .u8) 5 w' w.heap.size (fun k_ => some k_ ≠ (u318009 : Value).ownBlock ∧ some k_ ≠ (u318010 : Value).ownBlock ∧ k_ ≠ gb317 ∧ k_ ≠ gb334) u335010 x335010_2) ∧ Aside0 (w'.heap[gb317]? = some (.cells #[.int .u8 t301, .int .u16 t302, .bool t303, .bool t304, .int .i64 t305, .int .u8 t306, .int .u8 t307, .int .u32 t308, .int .u32 t309, u318009, u318010] 37 (0, 0))) ∧ Aside0 (w'.heap[gb334]? = some (.cells #[.int .u8 t318, .int .u16 t319, .bool t320, .bool t321, .int .i64 t322, .int .u8 t323, .int .u8 t324, .int .u32 t325, .int .u32 t326, u335009, u335010] 37 (0, 0))) ∧ Aside0 (Below w.heap.size w w'))
     case atStart => exact ⟨(0), (t310), (t313), (t327), (t330), (.slice Ao12 t310.length co12), (.slice Ao13 t313.length co13), (.slice Ao19 t327.length co19), (.slice Ao20 t330.length co20), (by first | rfl | (simp; done) | (simp [*]; done)), H', ⟨Nat.le_refl _⟩, ⟨by (with_reducible repeat (first | apply Kd.R_alloc | apply Kd.R_drewN | apply Kd.R_drew)); exact HO_318009.out⟩, ⟨by (with_reducible repeat (first | apply Kd.R_alloc | apply Kd.R_drewN | apply Kd.R_drew)); exact HO_318010.out⟩, ⟨by (with_reducible repeat (first | apply Kd.V_alloc | apply Kd.V_drewN | apply Kd.V_drew)); exact HO_335009.out⟩, ⟨by (with_reducible repeat (first | apply Kd.V_alloc | apply Kd.V_drewN | apply Kd.V_drew)); exact HO_335010.out⟩, ⟨by (with_reducible repeat (first | refine blk_drewN ?_ _ | refine blk_drew ?_ | refine blk_alloc ?_ _)); exact BK317.out⟩, ⟨by (with_reducible repeat (first | refine blk_drewN ?_ _ | refine blk_drew ?_ | refine blk_alloc ?_ _)); exact BK334.out⟩, ⟨by repeat (first | (with_reducible first | exact HB.out | apply below_alloc | apply pw_below_drewN | apply below_drew1 | refine below_set ?_ GE317.out | refine below_set ?_ GE334.out) | exact HB.out)⟩⟩
     case round =>
      clear H'
      try clear c1
      try clear c2
      try clear c2b0
      try clear c2b1
      try clear p2
      try clear c3
      try clear hcv8
      try clear c10
      try clear c17
      try clear c22
      try clear c22b0
      try clear c22b1
      try clear c24
      try clear c28
      try clear hcz11_0
      try clear hcz11_1
      try clear hcz11_10
      try clear hcz11_2
      try clear hcz11_3
      try clear hcz11_4
      try clear hcz11_5
      try clear hcz11_6
      try clear hcz11_7
      try clear hcz11_8
      try clear hcz11_9
      try clear hcz18_0
      try clear hcz18_1
      try clear hcz18_10
      try clear hcz18_2
      try clear hcz18_3
      try clear hcz18_4
      try clear hcz18_5
      try clear hcz18_6
      try clear hcz18_7
      try clear hcz18_8
      try clear hcz18_9
      try clear hcz25_0
      try clear hcz25_1
      try clear hcz25_10
      try clear hcz25_2
      try clear hcz25_3
      try clear hcz25_4
      try clear hcz25_5
      try clear hcz25_6
      try clear hcz25_7
      try clear hcz25_8
      try clear hcz25_9
      try clear hcz26_0
      try clear hcz26_1
      try clear hcz26_10
      try clear hcz26_2
      try clear hcz26_3
      try clear hcz26_4
      try clear hcz26_5
      try clear hcz26_6
      try clear hcz26_7
      try clear hcz26_8
      try clear hcz26_9
      try clear hfz11_0
      try clear hfz11_1
      try clear hfz11_10
      try clear hfz11_2
      try clear hfz11_3
      try clear hfz11_4
      try clear hfz11_5
      try clear hfz11_6
      try clear hfz11_7
      try clear hfz11_8
      try clear hfz11_9
      try clear hfz18_0
      try clear hfz18_1
      try clear hfz18_10
      try clear hfz18_2
      try clear hfz18_3
      try clear hfz18_4
      try clear hfz18_5
      try clear hfz18_6
      try clear hfz18_7
      try clear hfz18_8
      try clear hfz18_9
      try clear hfz25_0
      try clear hfz25_1
      try clear hfz25_10
      try clear hfz25_2
      try clear hfz25_3
      try clear hfz25_4
      try clear hfz25_5
      try clear hfz25_6
      try clear hfz25_7
      try clear hfz25_8
      try clear hfz25_9
      try clear hfz26_0
      try clear hfz26_1
      try clear hfz26_10
      try clear hfz26_2
      try clear hfz26_3
      try clear hfz26_4
      try clear hfz26_5
      try clear hfz26_6
      try clear hfz26_7
      try clear hfz26_8
      try clear hfz26_9
      try clear p2
      obtain ⟨x8_2, x318009_2, x318010_2, x335009_2, x335010_2, u318009, u318010, u335009, u335010, rfl, HA, HK2, HO_318009, HO_318010, HO_335009, HO_335010, BK317, BK334, HB⟩ := hrel
      cases gk with
      | zero => exact absurd HA.out (by simp [towropelaw06_IpGets.l0])
      | succ k2 =>
       have H := HA.out
       clear HA
       simp only [towropelaw06_IpGets.l0] at H
       by_cases c29 : x8_2 < (x318010_2.length : Int)
       ·
        rw [if_pos c29] at H
        have c29b0 : decide (x8_2 < (x318010_2.length : Int)) = true := decide_eq_true c29
        clear c29
        by_cases c30 : 0 ≤ x8_2
        ·
         rw [if_pos c30] at H
         have c30b0 : decide (0 ≤ x8_2) = true := decide_eq_true c30
         clear c30
         obtain ⟨y338, hy338⟩ : ∃ y_ : List Int, y_ = (x318010_2.set (x8_2 : Int).toNat (Go.bits .xor .u8 (rd x318010_2 x8_2) 255)) := ⟨_, rfl⟩
         replace H : (towropelaw06_IpGets.l0 k2 l0 (strOfNums l0) (wrap64 (x8_2 + 1)) t301 t302 t303 t304 t305 t306 t307 t308 t309 x318009_2 y338) = some r := by first | (rw [hy338]; with_reducible exact H) | (have H2_ := (Option.bind_some _ _).symm.trans H; rw [hy338]; with_reducible exact H2_) | (have H2_ := (Option.bind_some _ _).symm.trans H; with_reducible exact H2_) | with_reducible exact H | (rw [hy338]; exact H) | exact H
         have Ny338 := Aside0.mk hy338
         clear hy338
         have H' := Aside0.mk H
         clear H
         have hnb32 := NB317_334.out
         have hnc32 := NB334_317.out
         have hcz33_0 : wr.cell? ⟨gb317, 0, none⟩ = some (.int .u8 t301) := (blk_cell BK317.out 0).trans rfl
         have hcz33_1 : wr.cell? ⟨gb317, 1, none⟩ = some (.int .u16 t302) := (blk_cell BK317.out 1).trans rfl
         have hcz33_2 : wr.cell? ⟨gb317, 2, none⟩ = some (.bool t303) := (blk_cell BK317.out 2).trans rfl
         have hcz33_3 : wr.cell? ⟨gb317, 3, none⟩ = some (.bool t304) := (blk_cell BK317.out 3).trans rfl
         have hcz33_4 : wr.cell? ⟨gb317, 4, none⟩ = some (.int .i64 t305) := (blk_cell BK317.out 4).trans rfl
         have hcz33_5 : wr.cell? ⟨gb317, 5, none⟩ = some (.int .u8 t306) := (blk_cell BK317.out 5).trans rfl
         have hcz33_6 : wr.cell? ⟨gb317, 6, none⟩ = some (.int .u8 t307) := (blk_cell BK317.out 6).trans rfl
         have hcz33_7 : wr.cell? ⟨gb317, 7, none⟩ = some (.int .u32 t308) := (blk_cell BK317.out 7).trans rfl
         have hcz33_8 : wr.cell? ⟨gb317, 8, none⟩ = some (.int .u32 t309) := (blk_cell BK317.out 8).trans rfl
         have hcz33_9 : wr.cell? ⟨gb317, 9, none⟩ = some (u318009) := (blk_cell BK317.out 9).trans rfl
         have hcz33_10 : wr.cell? ⟨gb317, 10, none⟩ = some (u318010) := (blk_cell BK317.out 10).trans rfl
         have hfz33_0 := blk_frozen BK317.out 0
         have hfz33_1 := blk_frozen BK317.out 1
         have hfz33_2 := blk_frozen BK317.out 2
         have hfz33_3 := blk_frozen BK317.out 3
         have hfz33_4 := blk_frozen BK317.out 4
         have hfz33_5 := blk_frozen BK317.out 5
         have hfz33_6 := blk_frozen BK317.out 6
         have hfz33_7 := blk_frozen BK317.out 7
         have hfz33_8 := blk_frozen BK317.out 8
         have hfz33_9 := blk_frozen BK317.out 9
         have hfz33_10 := blk_frozen BK317.out 10
         obtain ⟨Ao34, co34, eo34⟩ := Kd.R_slice HO_318010.out
         subst eo34
         try go_wp2
         have n0_ := Aside0.mk (Kd.R_drew HO_318009.out)
         have n1_ := Aside0.mk (Kd.R_drew HO_318010.out)
         have n2_ := Aside0.mk (Kd.V_drew HO_335009.out)
         have n3_ := Aside0.mk (Kd.V_drew HO_335010.out)
         have n4_ := Aside0.mk (blk_drew BK317.out)
         have n5_ := Aside0.mk (blk_drew BK334.out)
         have n6_ := Aside0.mk (below_drew1 HB.out)
         clear HO_318009
         clear HO_318010
         clear HO_335009
         clear HO_335010
         clear BK317
         clear BK334
         clear HB
         have HO_318009 := n0_
         have HO_318010 := n1_
         have HO_335009 := n2_
         have HO_335010 := n3_
         have BK317 := n4_
         have BK334 := n5_
         have HB := n6_
         clear n0_ n1_ n2_ n3_ n4_ n5_ n6_
         have p337 : 0 ≤ (x8_2 : Int) := of_decide_eq_true (by first | (with_reducible assumption) | assumption)
         have q337 : x8_2 < (x318010_2.length : Int) := of_decide_eq_true (by first | (with_reducible assumption) | assumption)
         obtain ⟨ad337, e337, hx337_0⟩ := Kd.at_int (Kd.R_reads' HO_318010.out).2.2 x8_2 p337 q337
         cases e337
         replace p337 := eq_true p337
         replace q337 := eq_true q337
         have p31 : 0 ≤ (x8_2 : Int) := of_decide_eq_true (by first | (with_reducible assumption) | assumption)
         have q31 : (x8_2 : Int) < ((x318010_2.length : Int) : Int) := of_decide_eq_true (by first | (with_reducible assumption) | assumption)
         obtain ⟨go31, co31, eo31, gb31, gl31, cl31, HG31⟩ := Kd.R_form HO_318010.out (by omega)
         (first | cases eo31 | (injection eo31 with ea_ en_ ec_; (first | subst ea_ | (injection ea_ with ea_; subst ea_)); subst ec_; clear en_))
         have GB31 := Aside0.mk gb31
         have GG31 := Aside0.mk HG31
         clear gb31 gl31 HG31
         (first | simp only [add_plain] at hx337_0 | skip)
         obtain ⟨hx31_0, hf31_0⟩ := Kd.R_celln 0 HO_318010.out (x8_2 : Int) p31 q31
         replace p31 := eq_true p31
         replace q31 := eq_true q31
         have HP36 := Kd.R_putn HO_318010.out (x8_2 : Int) (Go.bits .xor .u8 (rd x318010_2 x8_2) 255)
         rw [← Ny338.out] at HP36
         have HQ36 := Aside0.mk HP36
         clear HP36
         refine start_ (n := 11) (S := fun w' => w'.cell? ⟨gb317, 0, none⟩ = some (.int .u8 t301) ∧ w'.cell? ⟨gb317, 1, none⟩ = some (.int .u16 t302) ∧ w'.cell? ⟨gb317, 2, none⟩ = some (.bool t303) ∧ w'.cell? ⟨gb317, 3, none⟩ = some (.bool t304) ∧ w'.cell? ⟨gb317, 4, none⟩ = some (.int .i64 t305) ∧ w'.cell? ⟨gb317, 5, none⟩ = some (.int .u8 t306) ∧ w'.cell? ⟨gb317, 6, none⟩ = some (.int .u8 t307) ∧ w'.cell? ⟨gb317, 7, none⟩ = some (.int .u32 t308) ∧ w'.cell? ⟨gb317, 8, none⟩ = some (.int .u32 t309) ∧ w'.cell? ⟨gb317, 9, none⟩ = some (u318009) ∧ w'.cell? ⟨gb317, 10, none⟩ = some (.slice (some ⟨go31, 0, none⟩) x318010_2.length co34) ∧ w'.cell? ⟨go31, (x8_2).toNat, none⟩ = some (.int .u8 (rd x318010_2 x8_2))) (ds := [10]) (bb 11 0) (by kernel_rfl) rfl rfl ⟨(blk_cell BK317.out 0).trans rfl, (blk_cell BK317.out 1).trans rfl, (blk_cell BK317.out 2).trans rfl, (blk_cell BK317.out 3).trans rfl, (blk_cell BK317.out 4).trans rfl, (blk_cell BK317.out 5).trans rfl, (blk_cell BK317.out 6).trans rfl, (blk_cell BK317.out 7).trans rfl, (blk_cell BK317.out 8).trans rfl, (blk_cell BK317.out 9).trans rfl, (blk_cell BK317.out 10).trans rfl, hx337_0⟩ (fun hHeld => ?_); refine with_tabW towropelaw06_IpGets.tab11 towropelaw06_IpGets.bits11 (fun HT_ HW_ => ?_)
         generalize wr.drew = w35 at HO_318009 HO_318010 HO_335009 HO_335010 BK317 BK334 HB GG31 HQ36 hf31_0 hx31_0 hx337_0 hHeld ⊢
         refine pure_ (i := 0) (N := some 42) (v := ?_) (a' := ?_) (bb 11 1) rfl rfl (any_of HT_.out (by kernel_rfl)) (fun _ _ _ h => h) (Or.inl ⟨by rfl, ?_⟩) ?_ ?_
         rotate_left
         ·
          intro w'
          go_simp
          with_reducible rfl
         rotate_left
         ·
          simp only [Act.put, List.setIfInBounds_toArray, List.set_cons_zero, List.set_cons_succ, i64_w, i32_w]
          rfl
         refine pure_ (i := 2) (N := some 44) (v := ?_) (a' := ?_) (bb 11 5) rfl rfl (any_of HT_.out (by kernel_rfl)) (fun _ _ _ h => h) (Or.inl ⟨by rfl, ?_⟩) ?_ ?_
         rotate_left
         ·
          intro w'
          go_simp
          with_reducible rfl
         rotate_left
         ·
          simp only [Act.put, List.setIfInBounds_toArray, List.set_cons_zero, List.set_cons_succ, i64_w, i32_w]
          rfl
         refine pure_ (i := 3) (N := some 45) (v := ?_) (a' := ?_) (bb 11 13) rfl rfl (any_of HT_.out (by kernel_rfl)) (fun _ _ _ h => h) (Or.inl ⟨by rfl, ?_⟩) ?_ ?_
         rotate_left
         ·
          intro w'
          go_simp
          with_reducible rfl
         rotate_left
         ·
          simp only [Act.put, List.setIfInBounds_toArray, List.set_cons_zero, List.set_cons_succ, i64_w, i32_w]
          rfl
         refine pure_ (i := 5) (N := some 47) (v := ?_) (a' := ?_) (bb 11 45) rfl rfl (any_of HT_.out (by kernel_rfl)) (fun _ _ _ h => h) (Or.inl ⟨by rfl, ?_⟩) ?_ ?_
         rotate_left
         ·
          intro w'
          go_simp
          with_reducible rfl
         rotate_left
         ·
          simp only [Act.put, List.setIfInBounds_toArray, List.set_cons_zero, List.set_cons_succ, i64_w, i32_w]
          rfl
         refine take_ (i := 1) (N := some 43) (v := ?_) (a' := ?_) (bb 11 47) rfl rfl (take_ofW HT_.out HW_.out (by kernel_rfl)) (fun _ _ _ h => h) (Or.inl ⟨by rfl, ?_⟩) hHeld ?_ ?_
         rotate_left
         ·
          rintro w' ⟨s0, s1, s2, s3, s4, s5, s6, s7, s8, s9, s10, s11⟩
          go_simp
          with_reducible rfl
         rotate_left
         ·
          simp only [Act.put, List.setIfInBounds_toArray, List.set_cons_zero, List.set_cons_succ, i64_w, i32_w]
          rfl
         refine take_ (i := 4) (N := some 46) (v := ?_) (a' := ?_) (bb 11 63) rfl rfl (take_ofW HT_.out HW_.out (by kernel_rfl)) (fun _ _ _ h => h) (Or.inl ⟨by rfl, ?_⟩) hHeld ?_ ?_
         rotate_left
         ·
          rintro w' ⟨s0, s1, s2, s3, s4, s5, s6, s7, s8, s9, s10, s11⟩
          go_simp
          with_reducible rfl
         rotate_left
         ·
          simp only [Act.put, List.setIfInBounds_toArray, List.set_cons_zero, List.set_cons_succ, i64_w, i32_w]
          rfl
         refine pure_ (i := 6) (N := some 48) (v := ?_) (a' := ?_) (bb 11 127) rfl rfl (any_of HT_.out (by kernel_rfl)) (fun _ _ _ h => h) (Or.inl ⟨by rfl, ?_⟩) ?_ ?_
         rotate_left
         ·
          intro w'
          go_simp
          with_reducible rfl
         rotate_left
         ·
          simp only [Act.put, List.setIfInBounds_toArray, List.set_cons_zero, List.set_cons_succ, i64_w, i32_w]
          rfl
         refine take_ (i := 7) (N := some 49) (v := ?_) (a' := ?_) (bb 11 255) rfl rfl (take_ofW HT_.out HW_.out (by kernel_rfl)) (fun _ _ _ h => h) (Or.inl ⟨by rfl, ?_⟩) hHeld ?_ ?_
         rotate_left
         ·
          rintro w' ⟨s0, s1, s2, s3, s4, s5, s6, s7, s8, s9, s10, s11⟩
          go_simp
          with_reducible rfl
         rotate_left
         ·
          simp only [Act.put, List.setIfInBounds_toArray, List.set_cons_zero, List.set_cons_succ, i64_w, i32_w]
          rfl
         refine pure_ (i := 8) (N := some 50) (v := ?_) (a' := ?_) (bb 11 511) rfl rfl (any_of HT_.out (by kernel_rfl)) (fun _ _ _ h => h) (Or.inl ⟨by rfl, ?_⟩) ?_ ?_
         rotate_left
         ·
          intro w'
          go_simp
          with_reducible rfl
         rotate_left
         ·
          simp only [Act.put, List.setIfInBounds_toArray, List.set_cons_zero, List.set_cons_succ, i64_w, i32_w]
          rfl
         refine pure_ (i := 9) (N := some 51) (v := ?_) (a' := ?_) (bb 11 1023) rfl rfl (any_of HT_.out (by kernel_rfl)) (fun _ _ _ h => h) (Or.inl ⟨by rfl, ?_⟩) ?_ ?_
         rotate_left
         ·
          intro w'
          go_simp
          with_reducible rfl
         rotate_left
         ·
          simp only [Act.put, List.setIfInBounds_toArray, List.set_cons_zero, List.set_cons_succ, i64_w, i32_w]
          rfl
         refine last_ (i := 10) (N := none) (bb 11 2047) rfl rfl (one_of HT_.out (by kernel_rfl)) (by decide) (fun K hK => ?_)
         refine skip_ (w1 := ?_) (by rfl) rfl ?_ ?_
         rotate_left
         ·
          go_simp
          rfl
         refine hK.out _ _ ?_
         clear hK K
         refine done_ (done_of HT_.out (by kernel_rfl)) ?_
         try go_wp2
         go_roundg k2
         case measure => have := HJ6.out; have := HK2.out; omega
         case rel => exact ⟨(wrap64 (x8_2 + 1)), (x318009_2), (y338), (x335009_2), (x335010_2), (u318009), (.slice (some ⟨go31, 0, none⟩) x318010_2.length co34), (u335009), (u335010), (by first | rfl | (simp; done) | (simp [*]; done)), H', ⟨by have := HJ6.out; have := HK2.out; omega⟩, ⟨by (with_reducible repeat (first | apply Kd.R_alloc | apply Kd.R_drewN | apply Kd.R_drew)); exact Kd.R_mono (Kd.R_far (p := ⟨go31, (x8_2 : Int).toNat, none⟩) (Kd.R_mono HO_318009.out (fun k_ hk => (⟨hk, fun e_ => hk (by rw [e_]; rfl)⟩ : _ ∧ k_ ≠ go31))) (fun _ hk => hk.2) (.int .u8 (Go.bits .xor .u8 (rd x318010_2 x8_2) 255))) (fun _ hk => hk.1)⟩, ⟨by (with_reducible repeat (first | apply Kd.R_alloc | apply Kd.R_drewN | apply Kd.R_drew)); exact HQ36.out⟩, ⟨by (with_reducible repeat (first | apply Kd.V_alloc | apply Kd.V_drewN | apply Kd.V_drew)); exact Kd.V_mono (Kd.V_far (p := ⟨go31, (x8_2 : Int).toNat, none⟩) (Kd.V_mono HO_335009.out (fun k_ hk => (⟨hk, fun e_ => hk.2.1 (by rw [e_]; rfl)⟩ : _ ∧ k_ ≠ go31))) (fun _ hk => hk.2) (.int .u8 (Go.bits .xor .u8 (rd x318010_2 x8_2) 255))) (fun _ hk => ⟨hk.1.1, ⟨hk.1.2.1, ⟨hk.1.2.2.1, hk.1.2.2.2⟩⟩⟩)⟩, ⟨by (with_reducible repeat (first | apply Kd.V_alloc | apply Kd.V_drewN | apply Kd.V_drew)); exact Kd.V_mono (Kd.V_far (p := ⟨go31, (x8_2 : Int).toNat, none⟩) (Kd.V_mono HO_335010.out (fun k_ hk => (⟨hk, fun e_ => hk.2.1 (by rw [e_]; rfl)⟩ : _ ∧ k_ ≠ go31))) (fun _ hk => hk.2) (.int .u8 (Go.bits .xor .u8 (rd x318010_2 x8_2) 255))) (fun _ hk => ⟨hk.1.1, ⟨hk.1.2.1, ⟨hk.1.2.2.1, hk.1.2.2.2⟩⟩⟩)⟩, ⟨by (with_reducible repeat (first | refine blk_drewN ?_ _ | refine blk_drew ?_ | refine blk_alloc ?_ _)); refine blk_far ?_ (by have h_ := Kd.R_ne HO_318010.out BK317.out (by decide); intro e_; exact h_ (by rw [e_]; rfl)) _; (with_reducible repeat (first | refine blk_drewN ?_ _ | refine blk_drew ?_ | refine blk_alloc ?_ _)); exact BK317.out⟩, ⟨by (with_reducible repeat (first | refine blk_drewN ?_ _ | refine blk_drew ?_ | refine blk_alloc ?_ _)); refine blk_far ?_ (by have h_ := Kd.R_ne HO_318010.out BK334.out (by decide); intro e_; exact h_ (by rw [e_]; rfl)) _; (with_reducible repeat (first | refine blk_drewN ?_ _ | refine blk_drew ?_ | refine blk_alloc ?_ _)); exact BK334.out⟩, ⟨by repeat (first | (with_reducible first | exact HB.out | apply below_alloc | apply pw_below_drewN | apply below_drew1 | refine below_set ?_ GB31.out | refine below_set ?_ GE317.out | refine below_set ?_ GE334.out) | exact HB.out)⟩⟩
        ·
         rw [if_neg c30] at H
         exact absurd H (by simp)
       ·
        rw [if_neg c29] at H
        have c29b0 : decide (x8_2 < (x318010_2.length : Int)) = false := decide_eq_false c29
        clear c29
        by_cases c37 : (strOfNums l0).toList = (strOfNums l0).toList
        ·
         (first | rw [if_pos c37] at H | rw [if_pos trivial] at H)
         have c37b0 : ((strOfNums l0).toList == (strOfNums l0).toList) = true := beq_iff_eq.mpr c37
         have c37b1 : ((strOfNums l0).toList != (strOfNums l0).toList) = false := bne_eq_false_iff_eq.mpr c37
         clear c37
         replace H := Option.bind_eq_some_iff.mp H
         obtain ⟨t339, A380, H⟩ := H
         replace H : (some t339) = some r := H
         have A38 := Aside0.mk A380
         clear A380
         obtain rfl := Option.some.inj H
         have hnb39 := NB317_334.out
         have hnc39 := NB334_317.out
         have hcz40_0 : wr.cell? ⟨gb317, 0, none⟩ = some (.int .u8 t301) := (blk_cell BK317.out 0).trans rfl
         have hcz40_1 : wr.cell? ⟨gb317, 1, none⟩ = some (.int .u16 t302) := (blk_cell BK317.out 1).trans rfl
         have hcz40_2 : wr.cell? ⟨gb317, 2, none⟩ = some (.bool t303) := (blk_cell BK317.out 2).trans rfl
         have hcz40_3 : wr.cell? ⟨gb317, 3, none⟩ = some (.bool t304) := (blk_cell BK317.out 3).trans rfl
         have hcz40_4 : wr.cell? ⟨gb317, 4, none⟩ = some (.int .i64 t305) := (blk_cell BK317.out 4).trans rfl
         have hcz40_5 : wr.cell? ⟨gb317, 5, none⟩ = some (.int .u8 t306) := (blk_cell BK317.out 5).trans rfl
         have hcz40_6 : wr.cell? ⟨gb317, 6, none⟩ = some (.int .u8 t307) := (blk_cell BK317.out 6).trans rfl
         have hcz40_7 : wr.cell? ⟨gb317, 7, none⟩ = some (.int .u32 t308) := (blk_cell BK317.out 7).trans rfl
         have hcz40_8 : wr.cell? ⟨gb317, 8, none⟩ = some (.int .u32 t309) := (blk_cell BK317.out 8).trans rfl
         have hcz40_9 : wr.cell? ⟨gb317, 9, none⟩ = some (u318009) := (blk_cell BK317.out 9).trans rfl
         have hcz40_10 : wr.cell? ⟨gb317, 10, none⟩ = some (u318010) := (blk_cell BK317.out 10).trans rfl
         have hfz40_0 := blk_frozen BK317.out 0
         have hfz40_1 := blk_frozen BK317.out 1
         have hfz40_2 := blk_frozen BK317.out 2
         have hfz40_3 := blk_frozen BK317.out 3
         have hfz40_4 := blk_frozen BK317.out 4
         have hfz40_5 := blk_frozen BK317.out 5
         have hfz40_6 := blk_frozen BK317.out 6
         have hfz40_7 := blk_frozen BK317.out 7
         have hfz40_8 := blk_frozen BK317.out 8
         have hfz40_9 := blk_frozen BK317.out 9
         have hfz40_10 := blk_frozen BK317.out 10
         obtain ⟨Ao41, co41, eo41⟩ := Kd.R_slice HO_318010.out
         subst eo41
         have hcv42 := Kd.C_string (P := Try.prog) (A := A0) (c := c0) Try.underlying23 Try.underlying5 Try.underlying9 (Kd.C_below HR0.out HB.out)
         go_wp2_with (first | (go_at_call 22; (with_reducible refine (towropelaw06_live.calls k2  t339 _ A38.out).mono ?_); rintro e w43 ⟨rfl, hb⟩; have n0_ := Aside0.mk (Kd.R_below (by (with_reducible repeat (first | apply Kd.R_alloc | apply Kd.R_drewN | apply Kd.R_drew)); exact HO_318009.out) hb); have n1_ := Aside0.mk (Kd.R_below (by (with_reducible repeat (first | apply Kd.R_alloc | apply Kd.R_drewN | apply Kd.R_drew)); exact HO_318010.out) hb); have n2_ := Aside0.mk (Kd.V_below (by (with_reducible repeat (first | apply Kd.V_alloc | apply Kd.V_drewN | apply Kd.V_drew)); exact HO_335009.out) hb); have n3_ := Aside0.mk (Kd.V_below (by (with_reducible repeat (first | apply Kd.V_alloc | apply Kd.V_drewN | apply Kd.V_drew)); exact HO_335010.out) hb); have n4_ := Aside0.mk (blk_below (g := gb317) (o := .cells #[.int .u8 t301, .int .u16 t302, .bool t303, .bool t304, .int .i64 t305, .int .u8 t306, .int .u8 t307, .int .u32 t308, .int .u32 t309, u318009, .slice Ao41 x318010_2.length co41] 37 (0, 0)) (by (with_reducible repeat (first | refine blk_drewN ?_ _ | refine blk_drew ?_ | refine blk_alloc ?_ _)); exact BK317.out) hb); have n5_ := Aside0.mk (blk_below (g := gb334) (o := .cells #[.int .u8 t318, .int .u16 t319, .bool t320, .bool t321, .int .i64 t322, .int .u8 t323, .int .u8 t324, .int .u32 t325, .int .u32 t326, u335009, u335010] 37 (0, 0)) (by (with_reducible repeat (first | refine blk_drewN ?_ _ | refine blk_drew ?_ | refine blk_alloc ?_ _)); exact BK334.out) hb); have n6_ := Aside0.mk (below_step (by repeat (first | (with_reducible first | exact HB.out | apply below_alloc | apply pw_below_drewN | apply below_drew1 | refine below_set ?_ GE317.out | refine below_set ?_ GE334.out) | exact HB.out)) hb); clear HO_318009; clear HO_318010; clear HO_335009; clear HO_335010; clear BK317; clear BK334; clear HB; have HO_318009 := n0_; have HO_318010 := n1_; have HO_335009 := n2_; have HO_335010 := n3_; have BK317 := n4_; have BK334 := n5_; have HB := n6_; clear n0_ n1_ n2_ n3_ n4_ n5_ n6_; (try clear hb); (try clear hb2); (try clear hk); (try clear hi)))
         go_ret
         exact ⟨by first | rfl | (simp [errW_none, errW_some] <;> rfl) | (simp [*, errW_none, errW_some] <;> rfl), by repeat (first | (with_reducible first | exact HB.out | apply below_alloc | apply pw_below_drewN | apply below_drew1 | refine below_set ?_ GE317.out | refine below_set ?_ GE334.out) | exact HB.out)⟩
        ·
         exact absurd rfl c37

/-- THE ONE PURE STATEMENT of towropelaw06_IpGets: yours. -/
def towropelaw06_IpGets.Pure : Prop := ∀ (l0 : List Int), l0.length ≤ maxLen → l0.length * 1 ≤ 140737488351232 → (∀ x ∈ l0, (Lit.int .u8 x).wf = true) → ∃ k, towropelaw06_IpGets.f k l0 = some true
theorem towropelaw06_IpGets.walk (P : towropelaw06_IpGets.Pure) (a0 : Option Addr) (len0 cap0 : Nat) (z0 : List Int) (w : World) (w0 : (a0 = none ∧ len0 = 0 ∧ cap0 = 0 ∧ z0 = []) ∨ ∃ x, a0 = some x ∧ len0 ≤ cap0 ∧ cap0 ≤ maxLen ∧ z0.length = cap0 ∧ (∀ i, i < z0.length → w.cell? (x.add i) = some (.int .u8 (z0.getD i 0))) ∧ ∀ n ∈ z0, (Lit.int .u8 n).wf = true) (y0 : len0 * 1 ≤ 140737488351232) :
  Calls Try.prog 10 #[.slice a0 len0 cap0] w fun e w' => e = .returned (.bool true) ∧ Below w.heap.size w w' := by
 obtain ⟨l0, rfl, hr0, hm0, hw0, hc0⟩ := ReadsInt.ofRowC w0
 obtain ⟨k, h⟩ := P l0 hm0 y0 hw0
 refine (towropelaw06_IpGets.calls k _ _ l0 true w (Kd.C_of_reads (d := (0 : Int)) (h1 := fun _ => rfl) hr0) hc0 h).mono ?_
 rintro e w' ⟨rfl, hd⟩
 exact ⟨rfl, hd⟩

end Go.Proofs.Ytdphjljbdodonaa.PIp
