-- Laid by a program of this session (wip/tools/mk.py) over the kit's print: functions, contracts, walks; not written by hand, not trusted: Lean checks it.
import Derived.Test.YtcebnaknodghcaaDoorPAdNx0
import Derived.Test.YtcebnaknodghcaaDoorPAdNx1
import Derived.Test.YtcebnaknodghcaaDoorPAdNx2
import Derived.Test.YtcebnaknodghcaaDoorPAdNx3
import Derived.Test.YtcebnaknodghcaaDoorPAdNx4
namespace Go.Proofs.YtcebnaknodghcaaDoor.PAdN
open Go.RowKit Go.Proofs.YtcebnaknodghcaaDoorW.PrintWords Go.Proofs.YtcebnaknodghcaaDoorW.PrintLast Go.Proofs.YtcebnaknodghcaaDoorW.PrintMore
attribute [local go_sem] max2_int min2_int max_two min_two max_three min_three max_four min_four   -- for this text's walks alone
set_option linter.unusedVariables false
set_option linter.unusedSimpArgs false

/-! ### towropelaw05_AddrNets: function 7 -/
def towropelaw05_AddrNets.j0 : Nat → Int → Int → Int → Int → Int → Int → Int → ByteArray → Int → Bool → Option (Bool)
  | 0, _, _, _, _, _, _, _, _, _, _ => none
  | k + 1, x2, x7, x8, x9, x10, x11, x12, x13, x14, x46 => if x46 = true then ((towropelaw05_code.f x10).bind fun t156 => (if t156 = 1 then ((towropelaw05_code.f x12).bind fun t157 => (if t157 = 1 then ((towropelaw05_code.f x14).bind fun t158 => (if t158 = 1 then (if x9 = 0 then (if x11 = 0 then (if x13.toList = ([] : List UInt8) then ((addr_In.f x8 x7 x2).bind fun t159 => (if t159 = true then (some false) else ((towropelaw05_live.f k).bind fun t160 => (some t160)))) else (some false)) else (some false)) else (some false)) else (some false))) else (some false))) else (some false))) else ((towroperef05_Net.f k x7 x2).bind fun t161 => ((towroperef05_Size.f k x2).bind fun t162 => ((addr_ParseNet.f k x13).bind fun bt163 => ((towropelaw05_code.f x10).bind fun t167 => ((towropelaw05_code.f x12).bind fun t168 => ((towropelaw05_code.f x14).bind fun t169 => (if (wrap64 ((wrap64 (t167 + t168)) + t169)) = 0 then (if x9 = t161 then (if x11 = ((wrap64 ((wrap64 ((wrap64 (t161)) + t162)) - 1)) % 4294967296) then ((addr_In.f x8 x7 x2).bind fun t170 => (if x8 ≥ t161 then (if (t170 == (decide (x8 ≤ ((wrap64 ((wrap64 ((wrap64 (t161)) + t162)) - 1)) % 4294967296)))) = true then ((towroperef05_Text.f k t161).bind fun t171 => (if t171.size + 1 ≤ 9223372036854775807 then ((towroperef04_Number.f k x2).bind fun t172 => (if (t171 ++ (⟨#[47]⟩ : ByteArray)).size + t172.size ≤ 9223372036854775807 then (if x13.toList = ((t171 ++ (⟨#[47]⟩ : ByteArray)) ++ t172).toList then (if bt163.1 = t161 then (if bt163.2.1 = x2 then ((towropelaw05_code.f bt163.2.2.1).bind fun t173 => (if t173 = 0 then (if bt163.2.2.2 = (x13.size : Int) then ((towropelaw05_live.f k).bind fun t174 => (some t174)) else (some false)) else (some false))) else (some false)) else (some false)) else (some false)) else (none))) else (none))) else (some false)) else (if (t170 == false) = true then ((towroperef05_Text.f k t161).bind fun t175 => (if t175.size + 1 ≤ 9223372036854775807 then ((towroperef04_Number.f k x2).bind fun t176 => (if (t175 ++ (⟨#[47]⟩ : ByteArray)).size + t176.size ≤ 9223372036854775807 then (if x13.toList = ((t175 ++ (⟨#[47]⟩ : ByteArray)) ++ t176).toList then (if bt163.1 = t161 then (if bt163.2.1 = x2 then ((towropelaw05_code.f bt163.2.2.1).bind fun t177 => (if t177 = 0 then (if bt163.2.2.2 = (x13.size : Int) then ((towropelaw05_live.f k).bind fun t178 => (some t178)) else (some false)) else (some false))) else (some false)) else (some false)) else (some false)) else (none))) else (none))) else (some false)))) else (some false)) else (some false)) else (some false))))))))
def towropelaw05_AddrNets.f (k : Nat) (a0 : Int) (a1 : Int) (a2 : Int) : Option (Bool) := (addr_Net.f a0 a2).bind fun bt150 => ((addr_Last.f a0 a2).bind fun bt152 => ((addr_NetText.f k a0 a2).bind fun bt154 => (if a2 < 0 then (towropelaw05_AddrNets.j0 k a2 a0 a1 bt150.1 bt150.2 bt152.1 bt152.2 bt154.1 bt154.2 true) else (towropelaw05_AddrNets.j0 k a2 a0 a1 bt150.1 bt150.2 bt152.1 bt152.2 bt154.1 bt154.2 (decide (a2 > 32))))))
theorem towropelaw05_AddrNets.mono_l : ∀ k, (∀ y0 y1 y2 y3 y4 y5 y6 y7 y8 y9, LeO (towropelaw05_AddrNets.j0 k y0 y1 y2 y3 y4 y5 y6 y7 y8 y9) (towropelaw05_AddrNets.j0 (k + 1) y0 y1 y2 y3 y4 y5 y6 y7 y8 y9))
  | 0 => fun _ _ _ _ _ _ _ _ _ _ r h => by simp [towropelaw05_AddrNets.j0] at h
  | k + 1 => by
    have ih0 := towropelaw05_AddrNets.mono_l k
    · intro y0 y1 y2 y3 y4 y5 y6 y7 y8 y9
      unfold towropelaw05_AddrNets.j0
      repeat' first
      | (with_reducible exact ih0 _ _ _ _ _ _ _ _ _ _)
      | (with_reducible exact addr_NetText.mono _ _ _)
      | (with_reducible exact addr_ParseNet.mono _ _)
      | (with_reducible exact towropelaw05_live.mono _)
      | (with_reducible exact towroperef04_Number.mono _ _)
      | (with_reducible exact towroperef05_Net.mono _ _ _)
      | (with_reducible exact towroperef05_Size.mono _ _)
      | (with_reducible exact towroperef05_Text.mono _ _)
      | (with_reducible exact LeO.refl _)
      | (with_reducible exact LeO.none _)
      | (with_reducible refine LeO.ite ?_ ?_)
      | (with_reducible refine LeO.bind ?_ (fun _ => ?_))
      | exact ih0 _ _ _ _ _ _ _ _ _ _
      | exact addr_NetText.mono _ _ _
      | exact addr_ParseNet.mono _ _
      | exact towropelaw05_live.mono _
      | exact towroperef04_Number.mono _ _
      | exact towroperef05_Net.mono _ _ _
      | exact towroperef05_Size.mono _ _
      | exact towroperef05_Text.mono _ _
      | exact LeO.none _
      | refine LeO.ite ?_ ?_
      | refine LeO.bind ?_ (fun _ => ?_)
theorem towropelaw05_AddrNets.mono : ∀ a0 a1 a2 k, LeO (towropelaw05_AddrNets.f k a0 a1 a2) (towropelaw05_AddrNets.f (k + 1) a0 a1 a2) := by
  intro a0 a1 a2 k
  have ih0 := towropelaw05_AddrNets.mono_l k
  unfold towropelaw05_AddrNets.f
  repeat' first
      | (with_reducible exact ih0 _ _ _ _ _ _ _ _ _ _)
      | (with_reducible exact addr_NetText.mono _ _ _)
      | (with_reducible exact addr_ParseNet.mono _ _)
      | (with_reducible exact towropelaw05_live.mono _)
      | (with_reducible exact towroperef04_Number.mono _ _)
      | (with_reducible exact towroperef05_Net.mono _ _ _)
      | (with_reducible exact towroperef05_Size.mono _ _)
      | (with_reducible exact towroperef05_Text.mono _ _)
      | (with_reducible exact LeO.refl _)
      | (with_reducible exact LeO.none _)
      | (with_reducible refine LeO.ite ?_ ?_)
      | (with_reducible refine LeO.bind ?_ (fun _ => ?_))
      | exact ih0 _ _ _ _ _ _ _ _ _ _
      | exact addr_NetText.mono _ _ _
      | exact addr_ParseNet.mono _ _
      | exact towropelaw05_live.mono _
      | exact towroperef04_Number.mono _ _
      | exact towroperef05_Net.mono _ _ _
      | exact towroperef05_Size.mono _ _
      | exact towroperef05_Text.mono _ _
      | exact LeO.none _
      | refine LeO.ite ?_ ?_
      | refine LeO.bind ?_ (fun _ => ?_)
set_option maxHeartbeats 8000000 in
set_option maxRecDepth 100000 in
theorem towropelaw05_AddrNets.calls (k : Nat) (a0 : Int) (a1 : Int) (a2 : Int) (r : Bool) (hrt : r = true) (w : World) (ht : Go.Proofs.YtcebnaknodghcaaDoor.HItoa.Tab w) (h : towropelaw05_AddrNets.f k a0 a1 a2 = some r) :
    Calls Tryd.prog 7 #[.int .u32 a0, .int .u32 a1, .int .i64 a2] w fun e w' => e = .returned (.bool r) ∧ Below w.heap.size w w' := by
  have HT := Aside0.mk ht
  clear ht
  have HRT := Aside0.mk hrt
  clear hrt
  have HB := Aside0.mk (Below.refl w.heap.size w)
  have H : ((addr_Net.f a0 a2).bind fun bt150 => ((addr_Last.f a0 a2).bind fun bt152 => ((addr_NetText.f k a0 a2).bind fun bt154 => (if a2 < 0 then (towropelaw05_AddrNets.j0 k a2 a0 a1 bt150.1 bt150.2 bt152.1 bt152.2 bt154.1 bt154.2 true) else (towropelaw05_AddrNets.j0 k a2 a0 a1 bt150.1 bt150.2 bt152.1 bt152.2 bt154.1 bt154.2 (decide (a2 > 32))))))) = some r := h
  clear h
  replace H := Option.bind_eq_some_iff.mp H
  obtain ⟨⟨t150, t151⟩, A40, H⟩ := H
  replace H : ((addr_Last.f a0 a2).bind fun bt152 => ((addr_NetText.f k a0 a2).bind fun bt154 => (if a2 < 0 then (towropelaw05_AddrNets.j0 k a2 a0 a1 t150 t151 bt152.1 bt152.2 bt154.1 bt154.2 true) else (towropelaw05_AddrNets.j0 k a2 a0 a1 t150 t151 bt152.1 bt152.2 bt154.1 bt154.2 (decide (a2 > 32)))))) = some r := H
  have A4 := Aside0.mk A40
  clear A40
  replace H := Option.bind_eq_some_iff.mp H
  obtain ⟨⟨t152, t153⟩, A50, H⟩ := H
  replace H : ((addr_NetText.f k a0 a2).bind fun bt154 => (if a2 < 0 then (towropelaw05_AddrNets.j0 k a2 a0 a1 t150 t151 t152 t153 bt154.1 bt154.2 true) else (towropelaw05_AddrNets.j0 k a2 a0 a1 t150 t151 t152 t153 bt154.1 bt154.2 (decide (a2 > 32))))) = some r := H
  have A5 := Aside0.mk A50
  clear A50
  replace H := Option.bind_eq_some_iff.mp H
  obtain ⟨⟨t154, t155⟩, A60, H⟩ := H
  replace H : (if a2 < 0 then (towropelaw05_AddrNets.j0 k a2 a0 a1 t150 t151 t152 t153 t154 t155 true) else (towropelaw05_AddrNets.j0 k a2 a0 a1 t150 t151 t152 t153 t154 t155 (decide (a2 > 32)))) = some r := H
  have A6 := Aside0.mk A60
  clear A60
  have HC7 := Aside0.mk H
  clear H
  go_enter Tryd.func7, Tryd.ntmps7
  go_upto_region 5 with (first | ((with_reducible refine gate_callee (f := 24) rfl ?_); refine goesL_ (some 26) rfl rfl Tryd.func24 (by kernel_rfl) rfl #[.int .u32 a0, .int .i64 a2] rfl (by (try simp only [List.map_toArray, List.map_cons, List.map_nil]); first | done | rfl | (simp only [List.length_drop, List.length_take]; rfl) | (go_simp; done) | (go_simp; omega)) ?_; (with_reducible refine (addr_Net.calls a0 a2 t150 t151 _ A4.out).mono ?_); rintro e w' ⟨rfl, ⟨nd, rfl⟩⟩; refine ⟨_, rfl, ?_⟩) | ((with_reducible refine gate_callee (f := 25) rfl ?_); refine goesL_ (some 32) rfl rfl Tryd.func25 (by kernel_rfl) rfl #[.int .u32 a0, .int .i64 a2] rfl (by (try simp only [List.map_toArray, List.map_cons, List.map_nil]); first | done | rfl | (simp only [List.length_drop, List.length_take]; rfl) | (go_simp; done) | (go_simp; omega)) ?_; (with_reducible refine (addr_Last.calls a0 a2 t152 t153 _ A5.out).mono ?_); rintro e w' ⟨rfl, ⟨nd, rfl⟩⟩; refine ⟨_, rfl, ?_⟩) | ((with_reducible refine gate_callee (f := 33) rfl ?_); refine goesL_ (some 38) rfl rfl Tryd.func33 (by kernel_rfl) rfl #[.int .u32 a0, .int .i64 a2] rfl (by (try simp only [List.map_toArray, List.map_cons, List.map_nil]); first | done | rfl | (simp only [List.length_drop, List.length_take]; rfl) | (go_simp; done) | (go_simp; omega)) ?_; (with_reducible refine (addr_NetText.calls k a0 a2 t154 t155 _ A6.out (ht := (by first | exact HT.out | exact Go.Proofs.YtcebnaknodghcaaDoor.HItoa.Tab.below HT.out (by repeat (first | (with_reducible first | exact HB.out | apply below_alloc | apply pw_below_drewN | apply below_drew1) | exact HB.out))))).mono ?_); rintro e w8 ⟨rfl, hb⟩; refine ⟨_, rfl, ?_⟩; have n0_ := Aside0.mk (below_step (by repeat (first | (with_reducible first | exact HB.out | apply below_alloc | apply pw_below_drewN | apply below_drew1) | exact HB.out)) hb); clear HB; have HB := n0_; clear n0_; (try clear hb); (try clear hb2); (try clear hk); (try clear hi)))
  (try simp only [Act.put, List.setIfInBounds_toArray, List.set_cons_zero, List.set_cons_succ])
  go_cut [46] (fun v46 wc => ∃ (kq : Nat) (x46_6 : Bool), v46 = .bool x46_6 ∧ Aside0 (towropelaw05_AddrNets.j0 kq a2 a0 a1 t150 t151 t152 t153 t154 t155 x46_6 = some r) ∧ Aside0 (kq ≤ k) ∧ Aside0 (Below w.heap.size w wc))
  case first =>
    have H := HC7.out
    clear HC7
    by_cases c9 : a2 < 0
    ·
      rw [if_pos c9] at H
      have c9b0 : decide (a2 < 0) = true := decide_eq_true c9
      clear c9
      (first | rw [c9b0] | (simp only [i64_w, i32_w]; rw [c9b0]) | skip)
      have H' := Aside0.mk H
      clear H
      go_wp2
      go_meet
      case rel => exact ⟨_, (true), (by first | rfl | (simp; done) | (simp [*]; done)), H', ⟨by first | omega | exact Nat.le_refl _⟩, ⟨by repeat (first | (with_reducible first | exact HB.out | apply below_alloc | apply pw_below_drewN | apply below_drew1) | exact HB.out)⟩⟩
    ·
      rw [if_neg c9] at H
      have c9b0 : decide (a2 < 0) = false := decide_eq_false c9
      clear c9
      (first | rw [c9b0] | (simp only [i64_w, i32_w]; rw [c9b0]) | skip)
      have H' := Aside0.mk H
      clear H
      go_wp2
      go_meet
      case rel => exact ⟨_, (decide (a2 > 32)), (by first | rfl | (simp; done) | (simp [*]; done)), H', ⟨by first | omega | exact Nat.le_refl _⟩, ⟨by repeat (first | (with_reducible first | exact HB.out | apply below_alloc | apply pw_below_drewN | apply below_drew1) | exact HB.out)⟩⟩
  case rest =>
    clear HC7
    try clear c2
    try clear p2
    try clear c3
    try clear c7
    try clear c9
    try clear c9b0
    obtain ⟨kq, x46_6, rfl, HA, HJ6, HB⟩ := hcut
    cases kq with
    | zero => exact absurd HA.out (by simp [towropelaw05_AddrNets.j0])
    | succ kj6 =>
      have H := HA.out
      clear HA
      simp only [towropelaw05_AddrNets.j0] at H
      by_cases c10 : x46_6 = true
      ·
        subst c10
        have H1 : ((towropelaw05_code.f t151).bind fun t156 => (if t156 = 1 then ((towropelaw05_code.f t153).bind fun t157 => (if t157 = 1 then ((towropelaw05_code.f t155).bind fun t158 => (if t158 = 1 then (if t150 = 0 then (if t152 = 0 then (if t154.toList = ([] : List UInt8) then ((addr_In.f a1 a0 a2).bind fun t159 => (if t159 = true then (some false) else ((towropelaw05_live.f kj6).bind fun t160 => (some t160)))) else (some false)) else (some false)) else (some false)) else (some false))) else (some false))) else (some false))) = some r := by rw [if_pos rfl] at H; exact H
        clear H
        have H := H1
        clear H1
        replace H := Option.bind_eq_some_iff.mp H
        obtain ⟨t156, A110, H⟩ := H
        replace H : (if t156 = 1 then ((towropelaw05_code.f t153).bind fun t157 => (if t157 = 1 then ((towropelaw05_code.f t155).bind fun t158 => (if t158 = 1 then (if t150 = 0 then (if t152 = 0 then (if t154.toList = ([] : List UInt8) then ((addr_In.f a1 a0 a2).bind fun t159 => (if t159 = true then (some false) else ((towropelaw05_live.f kj6).bind fun t160 => (some t160)))) else (some false)) else (some false)) else (some false)) else (some false))) else (some false))) else (some false)) = some r := H
        have A11 := Aside0.mk A110
        clear A110
        by_cases c12 : t156 = 1
        ·
          rw [if_pos c12] at H
          have c12b0 : (t156 == 1) = true := beq_iff_eq.mpr c12
          have c12b1 : (t156 != 1) = false := bne_eq_false_iff_eq.mpr c12
          clear c12
          replace H := Option.bind_eq_some_iff.mp H
          obtain ⟨t157, A130, H⟩ := H
          replace H : (if t157 = 1 then ((towropelaw05_code.f t155).bind fun t158 => (if t158 = 1 then (if t150 = 0 then (if t152 = 0 then (if t154.toList = ([] : List UInt8) then ((addr_In.f a1 a0 a2).bind fun t159 => (if t159 = true then (some false) else ((towropelaw05_live.f kj6).bind fun t160 => (some t160)))) else (some false)) else (some false)) else (some false)) else (some false))) else (some false)) = some r := H
          have A13 := Aside0.mk A130
          clear A130
          by_cases c14 : t157 = 1
          ·
            rw [if_pos c14] at H
            have c14b0 : (t157 == 1) = true := beq_iff_eq.mpr c14
            have c14b1 : (t157 != 1) = false := bne_eq_false_iff_eq.mpr c14
            clear c14
            replace H := Option.bind_eq_some_iff.mp H
            obtain ⟨t158, A150, H⟩ := H
            replace H : (if t158 = 1 then (if t150 = 0 then (if t152 = 0 then (if t154.toList = ([] : List UInt8) then ((addr_In.f a1 a0 a2).bind fun t159 => (if t159 = true then (some false) else ((towropelaw05_live.f kj6).bind fun t160 => (some t160)))) else (some false)) else (some false)) else (some false)) else (some false)) = some r := H
            have A15 := Aside0.mk A150
            clear A150
            by_cases c16 : t158 = 1
            ·
              rw [if_pos c16] at H
              have c16b0 : (t158 == 1) = true := beq_iff_eq.mpr c16
              have c16b1 : (t158 != 1) = false := bne_eq_false_iff_eq.mpr c16
              clear c16
              by_cases c17 : t150 = 0
              ·
                rw [if_pos c17] at H
                have c17b0 : (t150 == 0) = true := beq_iff_eq.mpr c17
                have c17b1 : (t150 != 0) = false := bne_eq_false_iff_eq.mpr c17
                clear c17
                by_cases c18 : t152 = 0
                ·
                  rw [if_pos c18] at H
                  have c18b0 : (t152 == 0) = true := beq_iff_eq.mpr c18
                  have c18b1 : (t152 != 0) = false := bne_eq_false_iff_eq.mpr c18
                  clear c18
                  by_cases c19 : t154.toList = ([] : List UInt8)
                  ·
                    rw [if_pos c19] at H
                    have c19b0 : (t154.toList == ([] : List UInt8)) = true := beq_iff_eq.mpr c19
                    have c19b1 : (t154.toList != ([] : List UInt8)) = false := bne_eq_false_iff_eq.mpr c19
                    clear c19
                    replace H := Option.bind_eq_some_iff.mp H
                    obtain ⟨t159, A200, H⟩ := H
                    replace H : (if t159 = true then (some false) else ((towropelaw05_live.f kj6).bind fun t160 => (some t160))) = some r := H
                    have A20 := Aside0.mk A200
                    clear A200
                    by_cases c21 : t159 = true
                    ·
                      subst c21
                      have H1 : (some false) = some r := by rw [if_pos rfl] at H; exact H
                      clear H
                      have H := H1
                      clear H1
                      exact absurd ((Option.some.inj H).trans HRT.out) (by decide)
                    ·
                      replace c21 := Bool.eq_false_iff.mpr c21
                      subst c21
                      have H1 : ((towropelaw05_live.f kj6).bind fun t160 => (some t160)) = some r := by rw [if_neg (show ¬ (false = true) by decide)] at H; exact H
                      clear H
                      have H := H1
                      clear H1
                      replace H := Option.bind_eq_some_iff.mp H
                      obtain ⟨t160, A220, H⟩ := H
                      replace H : (some t160) = some r := H
                      have A22 := Aside0.mk A220
                      clear A220
                      obtain rfl := Option.some.inj H
                      go_wp2_with (first | (go_at_call 20; (with_reducible refine (towropelaw05_code.calls t151 t156 _ A11.out).mono ?_); rintro e w' ⟨rfl, ⟨nd, rfl⟩⟩) | (go_at_call 20; (with_reducible refine (towropelaw05_code.calls t153 t157 _ A13.out).mono ?_); rintro e w' ⟨rfl, ⟨nd, rfl⟩⟩) | (go_at_call 20; (with_reducible refine (towropelaw05_code.calls t155 t158 _ A15.out).mono ?_); rintro e w' ⟨rfl, ⟨nd, rfl⟩⟩) | (go_at_call 26; (with_reducible refine (addr_In.calls a1 a0 a2 false _ A20.out).mono ?_); rintro e w' ⟨rfl, ⟨nd, rfl⟩⟩) | (go_at_call 23; (with_reducible refine (towropelaw05_live.calls kj6  t160 _ A22.out (ht := (by first | exact HT.out | exact Go.Proofs.YtcebnaknodghcaaDoor.HItoa.Tab.below HT.out (by repeat (first | (with_reducible first | exact HB.out | apply below_alloc | apply pw_below_drewN | apply below_drew1) | exact HB.out))))).mono ?_); rintro e w23 ⟨rfl, hb⟩; have n0_ := Aside0.mk (below_step (by repeat (first | (with_reducible first | exact HB.out | apply below_alloc | apply pw_below_drewN | apply below_drew1) | exact HB.out)) hb); clear HB; have HB := n0_; clear n0_; (try clear hb); (try clear hb2); (try clear hk); (try clear hi)))
                      go_ret
                      exact ⟨by first | rfl | (simp [errW_none, errW_some] <;> rfl) | (simp [*, errW_none, errW_some] <;> rfl), by repeat (first | (with_reducible first | exact HB.out | apply below_alloc | apply pw_below_drewN | apply below_drew1) | exact HB.out)⟩
                  ·
                    rw [if_neg c19] at H
                    have c19b0 : (t154.toList == ([] : List UInt8)) = false := beq_eq_false_iff_ne.mpr c19
                    have c19b1 : (t154.toList != ([] : List UInt8)) = true := bne_iff_ne.mpr c19
                    exact absurd ((Option.some.inj H).trans HRT.out) (by decide)
                ·
                  rw [if_neg c18] at H
                  have c18b0 : (t152 == 0) = false := beq_eq_false_iff_ne.mpr c18
                  have c18b1 : (t152 != 0) = true := bne_iff_ne.mpr c18
                  exact absurd ((Option.some.inj H).trans HRT.out) (by decide)
              ·
                rw [if_neg c17] at H
                have c17b0 : (t150 == 0) = false := beq_eq_false_iff_ne.mpr c17
                have c17b1 : (t150 != 0) = true := bne_iff_ne.mpr c17
                exact absurd ((Option.some.inj H).trans HRT.out) (by decide)
            ·
              rw [if_neg c16] at H
              have c16b0 : (t158 == 1) = false := beq_eq_false_iff_ne.mpr c16
              have c16b1 : (t158 != 1) = true := bne_iff_ne.mpr c16
              exact absurd ((Option.some.inj H).trans HRT.out) (by decide)
          ·
            rw [if_neg c14] at H
            have c14b0 : (t157 == 1) = false := beq_eq_false_iff_ne.mpr c14
            have c14b1 : (t157 != 1) = true := bne_iff_ne.mpr c14
            exact absurd ((Option.some.inj H).trans HRT.out) (by decide)
        ·
          rw [if_neg c12] at H
          have c12b0 : (t156 == 1) = false := beq_eq_false_iff_ne.mpr c12
          have c12b1 : (t156 != 1) = true := bne_iff_ne.mpr c12
          exact absurd ((Option.some.inj H).trans HRT.out) (by decide)
      ·
        replace c10 := Bool.eq_false_iff.mpr c10
        subst c10
        have H1 : ((towroperef05_Net.f kj6 a0 a2).bind fun t161 => ((towroperef05_Size.f kj6 a2).bind fun t162 => ((addr_ParseNet.f kj6 t154).bind fun bt163 => ((towropelaw05_code.f t151).bind fun t167 => ((towropelaw05_code.f t153).bind fun t168 => ((towropelaw05_code.f t155).bind fun t169 => (if (wrap64 ((wrap64 (t167 + t168)) + t169)) = 0 then (if t150 = t161 then (if t152 = ((wrap64 ((wrap64 ((wrap64 (t161)) + t162)) - 1)) % 4294967296) then ((addr_In.f a1 a0 a2).bind fun t170 => (if a1 ≥ t161 then (if (t170 == (decide (a1 ≤ ((wrap64 ((wrap64 ((wrap64 (t161)) + t162)) - 1)) % 4294967296)))) = true then ((towroperef05_Text.f kj6 t161).bind fun t171 => (if t171.size + 1 ≤ 9223372036854775807 then ((towroperef04_Number.f kj6 a2).bind fun t172 => (if (t171 ++ (⟨#[47]⟩ : ByteArray)).size + t172.size ≤ 9223372036854775807 then (if t154.toList = ((t171 ++ (⟨#[47]⟩ : ByteArray)) ++ t172).toList then (if bt163.1 = t161 then (if bt163.2.1 = a2 then ((towropelaw05_code.f bt163.2.2.1).bind fun t173 => (if t173 = 0 then (if bt163.2.2.2 = (t154.size : Int) then ((towropelaw05_live.f kj6).bind fun t174 => (some t174)) else (some false)) else (some false))) else (some false)) else (some false)) else (some false)) else (none))) else (none))) else (some false)) else (if (t170 == false) = true then ((towroperef05_Text.f kj6 t161).bind fun t175 => (if t175.size + 1 ≤ 9223372036854775807 then ((towroperef04_Number.f kj6 a2).bind fun t176 => (if (t175 ++ (⟨#[47]⟩ : ByteArray)).size + t176.size ≤ 9223372036854775807 then (if t154.toList = ((t175 ++ (⟨#[47]⟩ : ByteArray)) ++ t176).toList then (if bt163.1 = t161 then (if bt163.2.1 = a2 then ((towropelaw05_code.f bt163.2.2.1).bind fun t177 => (if t177 = 0 then (if bt163.2.2.2 = (t154.size : Int) then ((towropelaw05_live.f kj6).bind fun t178 => (some t178)) else (some false)) else (some false))) else (some false)) else (some false)) else (some false)) else (none))) else (none))) else (some false)))) else (some false)) else (some false)) else (some false)))))))) = some r := by rw [if_neg (show ¬ (false = true) by decide)] at H; exact H
        clear H
        have H := H1
        clear H1
        replace H := Option.bind_eq_some_iff.mp H
        obtain ⟨t161, A240, H⟩ := H
        replace H : ((towroperef05_Size.f kj6 a2).bind fun t162 => ((addr_ParseNet.f kj6 t154).bind fun bt163 => ((towropelaw05_code.f t151).bind fun t167 => ((towropelaw05_code.f t153).bind fun t168 => ((towropelaw05_code.f t155).bind fun t169 => (if (wrap64 ((wrap64 (t167 + t168)) + t169)) = 0 then (if t150 = t161 then (if t152 = ((wrap64 ((wrap64 ((wrap64 (t161)) + t162)) - 1)) % 4294967296) then ((addr_In.f a1 a0 a2).bind fun t170 => (if a1 ≥ t161 then (if (t170 == (decide (a1 ≤ ((wrap64 ((wrap64 ((wrap64 (t161)) + t162)) - 1)) % 4294967296)))) = true then ((towroperef05_Text.f kj6 t161).bind fun t171 => (if t171.size + 1 ≤ 9223372036854775807 then ((towroperef04_Number.f kj6 a2).bind fun t172 => (if (t171 ++ (⟨#[47]⟩ : ByteArray)).size + t172.size ≤ 9223372036854775807 then (if t154.toList = ((t171 ++ (⟨#[47]⟩ : ByteArray)) ++ t172).toList then (if bt163.1 = t161 then (if bt163.2.1 = a2 then ((towropelaw05_code.f bt163.2.2.1).bind fun t173 => (if t173 = 0 then (if bt163.2.2.2 = (t154.size : Int) then ((towropelaw05_live.f kj6).bind fun t174 => (some t174)) else (some false)) else (some false))) else (some false)) else (some false)) else (some false)) else (none))) else (none))) else (some false)) else (if (t170 == false) = true then ((towroperef05_Text.f kj6 t161).bind fun t175 => (if t175.size + 1 ≤ 9223372036854775807 then ((towroperef04_Number.f kj6 a2).bind fun t176 => (if (t175 ++ (⟨#[47]⟩ : ByteArray)).size + t176.size ≤ 9223372036854775807 then (if t154.toList = ((t175 ++ (⟨#[47]⟩ : ByteArray)) ++ t176).toList then (if bt163.1 = t161 then (if bt163.2.1 = a2 then ((towropelaw05_code.f bt163.2.2.1).bind fun t177 => (if t177 = 0 then (if bt163.2.2.2 = (t154.size : Int) then ((towropelaw05_live.f kj6).bind fun t178 => (some t178)) else (some false)) else (some false))) else (some false)) else (some false)) else (some false)) else (none))) else (none))) else (some false)))) else (some false)) else (some false)) else (some false))))))) = some r := H
        have A24 := Aside0.mk A240
        clear A240
        replace H := Option.bind_eq_some_iff.mp H
        obtain ⟨t162, A250, H⟩ := H
        replace H : ((addr_ParseNet.f kj6 t154).bind fun bt163 => ((towropelaw05_code.f t151).bind fun t167 => ((towropelaw05_code.f t153).bind fun t168 => ((towropelaw05_code.f t155).bind fun t169 => (if (wrap64 ((wrap64 (t167 + t168)) + t169)) = 0 then (if t150 = t161 then (if t152 = ((wrap64 ((wrap64 ((wrap64 (t161)) + t162)) - 1)) % 4294967296) then ((addr_In.f a1 a0 a2).bind fun t170 => (if a1 ≥ t161 then (if (t170 == (decide (a1 ≤ ((wrap64 ((wrap64 ((wrap64 (t161)) + t162)) - 1)) % 4294967296)))) = true then ((towroperef05_Text.f kj6 t161).bind fun t171 => (if t171.size + 1 ≤ 9223372036854775807 then ((towroperef04_Number.f kj6 a2).bind fun t172 => (if (t171 ++ (⟨#[47]⟩ : ByteArray)).size + t172.size ≤ 9223372036854775807 then (if t154.toList = ((t171 ++ (⟨#[47]⟩ : ByteArray)) ++ t172).toList then (if bt163.1 = t161 then (if bt163.2.1 = a2 then ((towropelaw05_code.f bt163.2.2.1).bind fun t173 => (if t173 = 0 then (if bt163.2.2.2 = (t154.size : Int) then ((towropelaw05_live.f kj6).bind fun t174 => (some t174)) else (some false)) else (some false))) else (some false)) else (some false)) else (some false)) else (none))) else (none))) else (some false)) else (if (t170 == false) = true then ((towroperef05_Text.f kj6 t161).bind fun t175 => (if t175.size + 1 ≤ 9223372036854775807 then ((towroperef04_Number.f kj6 a2).bind fun t176 => (if (t175 ++ (⟨#[47]⟩ : ByteArray)).size + t176.size ≤ 9223372036854775807 then (if t154.toList = ((t175 ++ (⟨#[47]⟩ : ByteArray)) ++ t176).toList then (if bt163.1 = t161 then (if bt163.2.1 = a2 then ((towropelaw05_code.f bt163.2.2.1).bind fun t177 => (if t177 = 0 then (if bt163.2.2.2 = (t154.size : Int) then ((towropelaw05_live.f kj6).bind fun t178 => (some t178)) else (some false)) else (some false))) else (some false)) else (some false)) else (some false)) else (none))) else (none))) else (some false)))) else (some false)) else (some false)) else (some false)))))) = some r := H
        have A25 := Aside0.mk A250
        clear A250
        replace H := Option.bind_eq_some_iff.mp H
        obtain ⟨⟨t163, t164, t165, t166⟩, A260, H⟩ := H
        replace H : ((towropelaw05_code.f t151).bind fun t167 => ((towropelaw05_code.f t153).bind fun t168 => ((towropelaw05_code.f t155).bind fun t169 => (if (wrap64 ((wrap64 (t167 + t168)) + t169)) = 0 then (if t150 = t161 then (if t152 = ((wrap64 ((wrap64 ((wrap64 (t161)) + t162)) - 1)) % 4294967296) then ((addr_In.f a1 a0 a2).bind fun t170 => (if a1 ≥ t161 then (if (t170 == (decide (a1 ≤ ((wrap64 ((wrap64 ((wrap64 (t161)) + t162)) - 1)) % 4294967296)))) = true then ((towroperef05_Text.f kj6 t161).bind fun t171 => (if t171.size + 1 ≤ 9223372036854775807 then ((towroperef04_Number.f kj6 a2).bind fun t172 => (if (t171 ++ (⟨#[47]⟩ : ByteArray)).size + t172.size ≤ 9223372036854775807 then (if t154.toList = ((t171 ++ (⟨#[47]⟩ : ByteArray)) ++ t172).toList then (if t163 = t161 then (if t164 = a2 then ((towropelaw05_code.f t165).bind fun t173 => (if t173 = 0 then (if t166 = (t154.size : Int) then ((towropelaw05_live.f kj6).bind fun t174 => (some t174)) else (some false)) else (some false))) else (some false)) else (some false)) else (some false)) else (none))) else (none))) else (some false)) else (if (t170 == false) = true then ((towroperef05_Text.f kj6 t161).bind fun t175 => (if t175.size + 1 ≤ 9223372036854775807 then ((towroperef04_Number.f kj6 a2).bind fun t176 => (if (t175 ++ (⟨#[47]⟩ : ByteArray)).size + t176.size ≤ 9223372036854775807 then (if t154.toList = ((t175 ++ (⟨#[47]⟩ : ByteArray)) ++ t176).toList then (if t163 = t161 then (if t164 = a2 then ((towropelaw05_code.f t165).bind fun t177 => (if t177 = 0 then (if t166 = (t154.size : Int) then ((towropelaw05_live.f kj6).bind fun t178 => (some t178)) else (some false)) else (some false))) else (some false)) else (some false)) else (some false)) else (none))) else (none))) else (some false)))) else (some false)) else (some false)) else (some false))))) = some r := H
        have A26 := Aside0.mk A260
        clear A260
        replace H := Option.bind_eq_some_iff.mp H
        obtain ⟨t167, A270, H⟩ := H
        replace H : ((towropelaw05_code.f t153).bind fun t168 => ((towropelaw05_code.f t155).bind fun t169 => (if (wrap64 ((wrap64 (t167 + t168)) + t169)) = 0 then (if t150 = t161 then (if t152 = ((wrap64 ((wrap64 ((wrap64 (t161)) + t162)) - 1)) % 4294967296) then ((addr_In.f a1 a0 a2).bind fun t170 => (if a1 ≥ t161 then (if (t170 == (decide (a1 ≤ ((wrap64 ((wrap64 ((wrap64 (t161)) + t162)) - 1)) % 4294967296)))) = true then ((towroperef05_Text.f kj6 t161).bind fun t171 => (if t171.size + 1 ≤ 9223372036854775807 then ((towroperef04_Number.f kj6 a2).bind fun t172 => (if (t171 ++ (⟨#[47]⟩ : ByteArray)).size + t172.size ≤ 9223372036854775807 then (if t154.toList = ((t171 ++ (⟨#[47]⟩ : ByteArray)) ++ t172).toList then (if t163 = t161 then (if t164 = a2 then ((towropelaw05_code.f t165).bind fun t173 => (if t173 = 0 then (if t166 = (t154.size : Int) then ((towropelaw05_live.f kj6).bind fun t174 => (some t174)) else (some false)) else (some false))) else (some false)) else (some false)) else (some false)) else (none))) else (none))) else (some false)) else (if (t170 == false) = true then ((towroperef05_Text.f kj6 t161).bind fun t175 => (if t175.size + 1 ≤ 9223372036854775807 then ((towroperef04_Number.f kj6 a2).bind fun t176 => (if (t175 ++ (⟨#[47]⟩ : ByteArray)).size + t176.size ≤ 9223372036854775807 then (if t154.toList = ((t175 ++ (⟨#[47]⟩ : ByteArray)) ++ t176).toList then (if t163 = t161 then (if t164 = a2 then ((towropelaw05_code.f t165).bind fun t177 => (if t177 = 0 then (if t166 = (t154.size : Int) then ((towropelaw05_live.f kj6).bind fun t178 => (some t178)) else (some false)) else (some false))) else (some false)) else (some false)) else (some false)) else (none))) else (none))) else (some false)))) else (some false)) else (some false)) else (some false)))) = some r := H
        have A27 := Aside0.mk A270
        clear A270
        replace H := Option.bind_eq_some_iff.mp H
        obtain ⟨t168, A280, H⟩ := H
        replace H : ((towropelaw05_code.f t155).bind fun t169 => (if (wrap64 ((wrap64 (t167 + t168)) + t169)) = 0 then (if t150 = t161 then (if t152 = ((wrap64 ((wrap64 ((wrap64 (t161)) + t162)) - 1)) % 4294967296) then ((addr_In.f a1 a0 a2).bind fun t170 => (if a1 ≥ t161 then (if (t170 == (decide (a1 ≤ ((wrap64 ((wrap64 ((wrap64 (t161)) + t162)) - 1)) % 4294967296)))) = true then ((towroperef05_Text.f kj6 t161).bind fun t171 => (if t171.size + 1 ≤ 9223372036854775807 then ((towroperef04_Number.f kj6 a2).bind fun t172 => (if (t171 ++ (⟨#[47]⟩ : ByteArray)).size + t172.size ≤ 9223372036854775807 then (if t154.toList = ((t171 ++ (⟨#[47]⟩ : ByteArray)) ++ t172).toList then (if t163 = t161 then (if t164 = a2 then ((towropelaw05_code.f t165).bind fun t173 => (if t173 = 0 then (if t166 = (t154.size : Int) then ((towropelaw05_live.f kj6).bind fun t174 => (some t174)) else (some false)) else (some false))) else (some false)) else (some false)) else (some false)) else (none))) else (none))) else (some false)) else (if (t170 == false) = true then ((towroperef05_Text.f kj6 t161).bind fun t175 => (if t175.size + 1 ≤ 9223372036854775807 then ((towroperef04_Number.f kj6 a2).bind fun t176 => (if (t175 ++ (⟨#[47]⟩ : ByteArray)).size + t176.size ≤ 9223372036854775807 then (if t154.toList = ((t175 ++ (⟨#[47]⟩ : ByteArray)) ++ t176).toList then (if t163 = t161 then (if t164 = a2 then ((towropelaw05_code.f t165).bind fun t177 => (if t177 = 0 then (if t166 = (t154.size : Int) then ((towropelaw05_live.f kj6).bind fun t178 => (some t178)) else (some false)) else (some false))) else (some false)) else (some false)) else (some false)) else (none))) else (none))) else (some false)))) else (some false)) else (some false)) else (some false))) = some r := H
        have A28 := Aside0.mk A280
        clear A280
        replace H := Option.bind_eq_some_iff.mp H
        obtain ⟨t169, A290, H⟩ := H
        replace H : (if (wrap64 ((wrap64 (t167 + t168)) + t169)) = 0 then (if t150 = t161 then (if t152 = ((wrap64 ((wrap64 ((wrap64 (t161)) + t162)) - 1)) % 4294967296) then ((addr_In.f a1 a0 a2).bind fun t170 => (if a1 ≥ t161 then (if (t170 == (decide (a1 ≤ ((wrap64 ((wrap64 ((wrap64 (t161)) + t162)) - 1)) % 4294967296)))) = true then ((towroperef05_Text.f kj6 t161).bind fun t171 => (if t171.size + 1 ≤ 9223372036854775807 then ((towroperef04_Number.f kj6 a2).bind fun t172 => (if (t171 ++ (⟨#[47]⟩ : ByteArray)).size + t172.size ≤ 9223372036854775807 then (if t154.toList = ((t171 ++ (⟨#[47]⟩ : ByteArray)) ++ t172).toList then (if t163 = t161 then (if t164 = a2 then ((towropelaw05_code.f t165).bind fun t173 => (if t173 = 0 then (if t166 = (t154.size : Int) then ((towropelaw05_live.f kj6).bind fun t174 => (some t174)) else (some false)) else (some false))) else (some false)) else (some false)) else (some false)) else (none))) else (none))) else (some false)) else (if (t170 == false) = true then ((towroperef05_Text.f kj6 t161).bind fun t175 => (if t175.size + 1 ≤ 9223372036854775807 then ((towroperef04_Number.f kj6 a2).bind fun t176 => (if (t175 ++ (⟨#[47]⟩ : ByteArray)).size + t176.size ≤ 9223372036854775807 then (if t154.toList = ((t175 ++ (⟨#[47]⟩ : ByteArray)) ++ t176).toList then (if t163 = t161 then (if t164 = a2 then ((towropelaw05_code.f t165).bind fun t177 => (if t177 = 0 then (if t166 = (t154.size : Int) then ((towropelaw05_live.f kj6).bind fun t178 => (some t178)) else (some false)) else (some false))) else (some false)) else (some false)) else (some false)) else (none))) else (none))) else (some false)))) else (some false)) else (some false)) else (some false)) = some r := H
        have A29 := Aside0.mk A290
        clear A290
        by_cases c30 : (wrap64 ((wrap64 (t167 + t168)) + t169)) = 0
        ·
          rw [if_pos c30] at H
          have c30b0 : ((wrap64 ((wrap64 (t167 + t168)) + t169)) == 0) = true := beq_iff_eq.mpr c30
          have c30b1 : ((wrap64 ((wrap64 (t167 + t168)) + t169)) != 0) = false := bne_eq_false_iff_eq.mpr c30
          clear c30
          by_cases c31 : t150 = t161
          ·
            rw [if_pos c31] at H
            have c31b0 : (t150 == t161) = true := beq_iff_eq.mpr c31
            have c31b1 : (t150 != t161) = false := bne_eq_false_iff_eq.mpr c31
            clear c31
            by_cases c32 : t152 = ((wrap64 ((wrap64 ((wrap64 (t161)) + t162)) - 1)) % 4294967296)
            ·
              rw [if_pos c32] at H
              have c32b0 : (t152 == ((wrap64 ((wrap64 ((wrap64 (t161)) + t162)) - 1)) % 4294967296)) = true := beq_iff_eq.mpr c32
              have c32b1 : (t152 != ((wrap64 ((wrap64 ((wrap64 (t161)) + t162)) - 1)) % 4294967296)) = false := bne_eq_false_iff_eq.mpr c32
              clear c32
              replace H := Option.bind_eq_some_iff.mp H
              obtain ⟨t170, A330, H⟩ := H
              replace H : (if a1 ≥ t161 then (if (t170 == (decide (a1 ≤ ((wrap64 ((wrap64 ((wrap64 (t161)) + t162)) - 1)) % 4294967296)))) = true then ((towroperef05_Text.f kj6 t161).bind fun t171 => (if t171.size + 1 ≤ 9223372036854775807 then ((towroperef04_Number.f kj6 a2).bind fun t172 => (if (t171 ++ (⟨#[47]⟩ : ByteArray)).size + t172.size ≤ 9223372036854775807 then (if t154.toList = ((t171 ++ (⟨#[47]⟩ : ByteArray)) ++ t172).toList then (if t163 = t161 then (if t164 = a2 then ((towropelaw05_code.f t165).bind fun t173 => (if t173 = 0 then (if t166 = (t154.size : Int) then ((towropelaw05_live.f kj6).bind fun t174 => (some t174)) else (some false)) else (some false))) else (some false)) else (some false)) else (some false)) else (none))) else (none))) else (some false)) else (if (t170 == false) = true then ((towroperef05_Text.f kj6 t161).bind fun t175 => (if t175.size + 1 ≤ 9223372036854775807 then ((towroperef04_Number.f kj6 a2).bind fun t176 => (if (t175 ++ (⟨#[47]⟩ : ByteArray)).size + t176.size ≤ 9223372036854775807 then (if t154.toList = ((t175 ++ (⟨#[47]⟩ : ByteArray)) ++ t176).toList then (if t163 = t161 then (if t164 = a2 then ((towropelaw05_code.f t165).bind fun t177 => (if t177 = 0 then (if t166 = (t154.size : Int) then ((towropelaw05_live.f kj6).bind fun t178 => (some t178)) else (some false)) else (some false))) else (some false)) else (some false)) else (some false)) else (none))) else (none))) else (some false))) = some r := H
              have A33 := Aside0.mk A330
              clear A330
              by_cases c34 : a1 ≥ t161
              ·
                rw [if_pos c34] at H
                have c34b0 : decide (t161 ≤ a1) = true := decide_eq_true c34
                clear c34
                by_cases c35 : (t170 == (decide (a1 ≤ ((wrap64 ((wrap64 ((wrap64 (t161)) + t162)) - 1)) % 4294967296)))) = true
                ·
                  rw [if_pos c35] at H
                  have c35b0 : (t170 == (decide (a1 ≤ ((wrap64 ((wrap64 ((wrap64 (t161)) + t162)) - 1)) % 4294967296)))) = true := c35
                  (try (have c35b1 : decide (t170 = (decide (a1 ≤ ((wrap64 ((wrap64 ((wrap64 (t161)) + t162)) - 1)) % 4294967296)))) = true := by simpa using c35))
                  (try (have c35b2 : (t170 == (decide (a1 ≤ ((wrap64 ((wrap64 ((wrap64 (t161)) + t162)) - 1)) % 4294967296)))) = true := by simpa using c35))
                  clear c35
                  replace H := Option.bind_eq_some_iff.mp H
                  obtain ⟨t171, A360, H⟩ := H
                  replace H : (if t171.size + 1 ≤ 9223372036854775807 then ((towroperef04_Number.f kj6 a2).bind fun t172 => (if (t171 ++ (⟨#[47]⟩ : ByteArray)).size + t172.size ≤ 9223372036854775807 then (if t154.toList = ((t171 ++ (⟨#[47]⟩ : ByteArray)) ++ t172).toList then (if t163 = t161 then (if t164 = a2 then ((towropelaw05_code.f t165).bind fun t173 => (if t173 = 0 then (if t166 = (t154.size : Int) then ((towropelaw05_live.f kj6).bind fun t174 => (some t174)) else (some false)) else (some false))) else (some false)) else (some false)) else (some false)) else (none))) else (none)) = some r := H
                  have A36 := Aside0.mk A360
                  clear A360
                  by_cases c37 : t171.size + 1 ≤ 9223372036854775807
                  ·
                    rw [if_pos c37] at H
                    have c37b0 := eq_true c37
                    have c37b1 : decide (t171.size + 1 ≤ 9223372036854775807) = true := decide_eq_true c37
                    try have c37b2 : (9223372036854775807 < t171.size + 1) = False := eq_false (Nat.not_lt.2 c37)
                    replace H := Option.bind_eq_some_iff.mp H
                    obtain ⟨t172, A380, H⟩ := H
                    replace H : (if (t171 ++ (⟨#[47]⟩ : ByteArray)).size + t172.size ≤ 9223372036854775807 then (if t154.toList = ((t171 ++ (⟨#[47]⟩ : ByteArray)) ++ t172).toList then (if t163 = t161 then (if t164 = a2 then ((towropelaw05_code.f t165).bind fun t173 => (if t173 = 0 then (if t166 = (t154.size : Int) then ((towropelaw05_live.f kj6).bind fun t174 => (some t174)) else (some false)) else (some false))) else (some false)) else (some false)) else (some false)) else (none)) = some r := H
                    have A38 := Aside0.mk A380
                    clear A380
                    by_cases c39 : (t171 ++ (⟨#[47]⟩ : ByteArray)).size + t172.size ≤ 9223372036854775807
                    ·
                      rw [if_pos c39] at H
                      have c39b0 := eq_true c39
                      have c39b1 : decide ((t171 ++ (⟨#[47]⟩ : ByteArray)).size + t172.size ≤ 9223372036854775807) = true := decide_eq_true c39
                      try have c39b2 : (9223372036854775807 < (t171 ++ (⟨#[47]⟩ : ByteArray)).size + t172.size) = False := eq_false (Nat.not_lt.2 c39)
                      try have c39b2z : (9223372036854775807 < t171.size + 1 + t172.size) = False := eq_false (Nat.not_lt.2 (by have q_ := c39; (try simp only [ByteArray.size_append] at q_); exact q_))
                      by_cases c40 : t154.toList = ((t171 ++ (⟨#[47]⟩ : ByteArray)) ++ t172).toList
                      ·
                        rw [if_pos c40] at H
                        have c40b0 : (t154.toList == ((t171 ++ (⟨#[47]⟩ : ByteArray)) ++ t172).toList) = true := beq_iff_eq.mpr c40
                        have c40b1 : (t154.toList != ((t171 ++ (⟨#[47]⟩ : ByteArray)) ++ t172).toList) = false := bne_eq_false_iff_eq.mpr c40
                        clear c40
                        by_cases c41 : t163 = t161
                        ·
                          rw [if_pos c41] at H
                          have c41b0 : (t163 == t161) = true := beq_iff_eq.mpr c41
                          have c41b1 : (t163 != t161) = false := bne_eq_false_iff_eq.mpr c41
                          clear c41
                          by_cases c42 : t164 = a2
                          ·
                            rw [if_pos c42] at H
                            have c42b0 : (t164 == a2) = true := beq_iff_eq.mpr c42
                            have c42b1 : (t164 != a2) = false := bne_eq_false_iff_eq.mpr c42
                            clear c42
                            replace H := Option.bind_eq_some_iff.mp H
                            obtain ⟨t173, A430, H⟩ := H
                            replace H : (if t173 = 0 then (if t166 = (t154.size : Int) then ((towropelaw05_live.f kj6).bind fun t174 => (some t174)) else (some false)) else (some false)) = some r := H
                            have A43 := Aside0.mk A430
                            clear A430
                            by_cases c44 : t173 = 0
                            ·
                              rw [if_pos c44] at H
                              have c44b0 : (t173 == 0) = true := beq_iff_eq.mpr c44
                              have c44b1 : (t173 != 0) = false := bne_eq_false_iff_eq.mpr c44
                              clear c44
                              by_cases c45 : t166 = (t154.size : Int)
                              ·
                                rw [if_pos c45] at H
                                have c45b0 : (t166 == (t154.size : Int)) = true := beq_iff_eq.mpr c45
                                have c45b1 : (t166 != (t154.size : Int)) = false := bne_eq_false_iff_eq.mpr c45
                                clear c45
                                replace H := Option.bind_eq_some_iff.mp H
                                obtain ⟨t174, A460, H⟩ := H
                                replace H : (some t174) = some r := H
                                have A46 := Aside0.mk A460
                                clear A460
                                obtain rfl := Option.some.inj H
                                go_wp2_with (first | ((with_reducible refine gate_callee (f := 34) rfl ?_); refine goesL_ (some 84) rfl rfl Tryd.func34 (by kernel_rfl) rfl #[.int .u32 a0, .int .i64 a2] rfl (by (try simp only [List.map_toArray, List.map_cons, List.map_nil]); first | done | rfl | (simp only [List.length_drop, List.length_take]; rfl) | (go_simp; done) | (go_simp; omega)) ?_; (with_reducible refine (towroperef05_Net.calls kj6 a0 a2 t161 _ A24.out).mono ?_); rintro e w' ⟨rfl, ⟨nd, rfl⟩⟩; refine ⟨_, rfl, ?_⟩) | ((with_reducible refine gate_callee (f := 35) rfl ?_); refine goesL_ (some 88) rfl rfl Tryd.func35 (by kernel_rfl) rfl #[.int .i64 a2] rfl (by (try simp only [List.map_toArray, List.map_cons, List.map_nil]); first | done | rfl | (simp only [List.length_drop, List.length_take]; rfl) | (go_simp; done) | (go_simp; omega)) ?_; (with_reducible refine (towroperef05_Size.calls kj6 a2 t162 _ A25.out).mono ?_); rintro e w' ⟨rfl, ⟨nd, rfl⟩⟩; refine ⟨_, rfl, ?_⟩) | ((with_reducible refine gate_callee (f := 36) rfl ?_); refine goesL_ (some 94) rfl rfl Tryd.func36 (by kernel_rfl) rfl #[.string t154] rfl (by (try simp only [List.map_toArray, List.map_cons, List.map_nil]); first | done | rfl | (simp only [List.length_drop, List.length_take]; rfl) | (go_simp; done) | (go_simp; omega)) ?_; (with_reducible refine (addr_ParseNet.calls kj6 t154 t163 t164 t165 t166 _ A26.out).mono ?_); rintro e w' ⟨rfl, ⟨nd, rfl⟩⟩; refine ⟨_, rfl, ?_⟩) | (go_at_call 20; (with_reducible refine (towropelaw05_code.calls t151 t167 _ A27.out).mono ?_); rintro e w' ⟨rfl, ⟨nd, rfl⟩⟩) | (go_at_call 20; (with_reducible refine (towropelaw05_code.calls t153 t168 _ A28.out).mono ?_); rintro e w' ⟨rfl, ⟨nd, rfl⟩⟩) | (go_at_call 20; (with_reducible refine (towropelaw05_code.calls t155 t169 _ A29.out).mono ?_); rintro e w' ⟨rfl, ⟨nd, rfl⟩⟩) | (go_at_call 26; (with_reducible refine (addr_In.calls a1 a0 a2 t170 _ A33.out).mono ?_); rintro e w' ⟨rfl, ⟨nd, rfl⟩⟩) | (go_at_call 19; (with_reducible refine (towroperef05_Text.calls kj6 t161 t171 _ A36.out).mono ?_); rintro e w47 ⟨rfl, hb⟩; have n0_ := Aside0.mk (below_step (by repeat (first | (with_reducible first | exact HB.out | apply below_alloc | apply pw_below_drewN | apply below_drew1) | exact HB.out)) hb); clear HB; have HB := n0_; clear n0_; (try clear hb); (try clear hb2); (try clear hk); (try clear hi)) | (go_at_call 37; (with_reducible refine (towroperef04_Number.calls kj6 a2 t172 _ A38.out).mono ?_); rintro e w48 ⟨rfl, hb⟩; have n0_ := Aside0.mk (below_step (by repeat (first | (with_reducible first | exact HB.out | apply below_alloc | apply pw_below_drewN | apply below_drew1) | exact HB.out)) hb); clear HB; have HB := n0_; clear n0_; (try clear hb); (try clear hb2); (try clear hk); (try clear hi)) | (go_at_call 20; (with_reducible refine (towropelaw05_code.calls t165 t173 _ A43.out).mono ?_); rintro e w' ⟨rfl, ⟨nd, rfl⟩⟩) | (go_at_call 23; (with_reducible refine (towropelaw05_live.calls kj6  t174 _ A46.out (ht := (by first | exact HT.out | exact Go.Proofs.YtcebnaknodghcaaDoor.HItoa.Tab.below HT.out (by repeat (first | (with_reducible first | exact HB.out | apply below_alloc | apply pw_below_drewN | apply below_drew1) | exact HB.out))))).mono ?_); rintro e w49 ⟨rfl, hb⟩; have n0_ := Aside0.mk (below_step (by repeat (first | (with_reducible first | exact HB.out | apply below_alloc | apply pw_below_drewN | apply below_drew1) | exact HB.out)) hb); clear HB; have HB := n0_; clear n0_; (try clear hb); (try clear hb2); (try clear hk); (try clear hi)))
                                go_ret
                                exact ⟨by first | rfl | (simp [errW_none, errW_some] <;> rfl) | (simp [*, errW_none, errW_some] <;> rfl), by repeat (first | (with_reducible first | exact HB.out | apply below_alloc | apply pw_below_drewN | apply below_drew1) | exact HB.out)⟩
                              ·
                                rw [if_neg c45] at H
                                have c45b0 : (t166 == (t154.size : Int)) = false := beq_eq_false_iff_ne.mpr c45
                                have c45b1 : (t166 != (t154.size : Int)) = true := bne_iff_ne.mpr c45
                                exact absurd ((Option.some.inj H).trans HRT.out) (by decide)
                            ·
                              rw [if_neg c44] at H
                              have c44b0 : (t173 == 0) = false := beq_eq_false_iff_ne.mpr c44
                              have c44b1 : (t173 != 0) = true := bne_iff_ne.mpr c44
                              exact absurd ((Option.some.inj H).trans HRT.out) (by decide)
                          ·
                            rw [if_neg c42] at H
                            have c42b0 : (t164 == a2) = false := beq_eq_false_iff_ne.mpr c42
                            have c42b1 : (t164 != a2) = true := bne_iff_ne.mpr c42
                            exact absurd ((Option.some.inj H).trans HRT.out) (by decide)
                        ·
                          rw [if_neg c41] at H
                          have c41b0 : (t163 == t161) = false := beq_eq_false_iff_ne.mpr c41
                          have c41b1 : (t163 != t161) = true := bne_iff_ne.mpr c41
                          exact absurd ((Option.some.inj H).trans HRT.out) (by decide)
                      ·
                        rw [if_neg c40] at H
                        have c40b0 : (t154.toList == ((t171 ++ (⟨#[47]⟩ : ByteArray)) ++ t172).toList) = false := beq_eq_false_iff_ne.mpr c40
                        have c40b1 : (t154.toList != ((t171 ++ (⟨#[47]⟩ : ByteArray)) ++ t172).toList) = true := bne_iff_ne.mpr c40
                        exact absurd ((Option.some.inj H).trans HRT.out) (by decide)
                    ·
                      rw [if_neg c39] at H
                      exact absurd H (by simp)
                  ·
                    rw [if_neg c37] at H
                    exact absurd H (by simp)
                ·
                  rw [if_neg c35] at H
                  have c35b0 : (t170 == (decide (a1 ≤ ((wrap64 ((wrap64 ((wrap64 (t161)) + t162)) - 1)) % 4294967296)))) = false := by simpa using c35
                  (try (have c35b1 : decide (t170 = (decide (a1 ≤ ((wrap64 ((wrap64 ((wrap64 (t161)) + t162)) - 1)) % 4294967296)))) = false := by simpa using c35))
                  (try (have c35b2 : (t170 == (decide (a1 ≤ ((wrap64 ((wrap64 ((wrap64 (t161)) + t162)) - 1)) % 4294967296)))) = false := by simpa using c35))
                  (try (have c35b3 : ¬ (t170 = (decide (a1 ≤ ((wrap64 ((wrap64 ((wrap64 (t161)) + t162)) - 1)) % 4294967296)))) := by simpa using c35))
                  clear c35
                  exact absurd ((Option.some.inj H).trans HRT.out) (by decide)
              ·
                rw [if_neg c34] at H
                have c34b0 : decide (t161 ≤ a1) = false := decide_eq_false c34
                clear c34
                by_cases c60 : (t170 == false) = true
                ·
                  rw [if_pos c60] at H
                  have c60b0 : (t170 == false) = true := c60
                  (try (have c60b1 : decide (t170 = false) = true := by simpa using c60))
                  (try (have c60b2 : (t170 == false) = true := by simpa using c60))
                  clear c60
                  replace H := Option.bind_eq_some_iff.mp H
                  obtain ⟨t175, A610, H⟩ := H
                  replace H : (if t175.size + 1 ≤ 9223372036854775807 then ((towroperef04_Number.f kj6 a2).bind fun t176 => (if (t175 ++ (⟨#[47]⟩ : ByteArray)).size + t176.size ≤ 9223372036854775807 then (if t154.toList = ((t175 ++ (⟨#[47]⟩ : ByteArray)) ++ t176).toList then (if t163 = t161 then (if t164 = a2 then ((towropelaw05_code.f t165).bind fun t177 => (if t177 = 0 then (if t166 = (t154.size : Int) then ((towropelaw05_live.f kj6).bind fun t178 => (some t178)) else (some false)) else (some false))) else (some false)) else (some false)) else (some false)) else (none))) else (none)) = some r := H
                  have A61 := Aside0.mk A610
                  clear A610
                  by_cases c62 : t175.size + 1 ≤ 9223372036854775807
                  ·
                    rw [if_pos c62] at H
                    have c62b0 := eq_true c62
                    have c62b1 : decide (t175.size + 1 ≤ 9223372036854775807) = true := decide_eq_true c62
                    try have c62b2 : (9223372036854775807 < t175.size + 1) = False := eq_false (Nat.not_lt.2 c62)
                    replace H := Option.bind_eq_some_iff.mp H
                    obtain ⟨t176, A630, H⟩ := H
                    replace H : (if (t175 ++ (⟨#[47]⟩ : ByteArray)).size + t176.size ≤ 9223372036854775807 then (if t154.toList = ((t175 ++ (⟨#[47]⟩ : ByteArray)) ++ t176).toList then (if t163 = t161 then (if t164 = a2 then ((towropelaw05_code.f t165).bind fun t177 => (if t177 = 0 then (if t166 = (t154.size : Int) then ((towropelaw05_live.f kj6).bind fun t178 => (some t178)) else (some false)) else (some false))) else (some false)) else (some false)) else (some false)) else (none)) = some r := H
                    have A63 := Aside0.mk A630
                    clear A630
                    by_cases c64 : (t175 ++ (⟨#[47]⟩ : ByteArray)).size + t176.size ≤ 9223372036854775807
                    ·
                      rw [if_pos c64] at H
                      have c64b0 := eq_true c64
                      have c64b1 : decide ((t175 ++ (⟨#[47]⟩ : ByteArray)).size + t176.size ≤ 9223372036854775807) = true := decide_eq_true c64
                      try have c64b2 : (9223372036854775807 < (t175 ++ (⟨#[47]⟩ : ByteArray)).size + t176.size) = False := eq_false (Nat.not_lt.2 c64)
                      try have c64b2z : (9223372036854775807 < t175.size + 1 + t176.size) = False := eq_false (Nat.not_lt.2 (by have q_ := c64; (try simp only [ByteArray.size_append] at q_); exact q_))
                      by_cases c65 : t154.toList = ((t175 ++ (⟨#[47]⟩ : ByteArray)) ++ t176).toList
                      ·
                        rw [if_pos c65] at H
                        have c65b0 : (t154.toList == ((t175 ++ (⟨#[47]⟩ : ByteArray)) ++ t176).toList) = true := beq_iff_eq.mpr c65
                        have c65b1 : (t154.toList != ((t175 ++ (⟨#[47]⟩ : ByteArray)) ++ t176).toList) = false := bne_eq_false_iff_eq.mpr c65
                        clear c65
                        by_cases c66 : t163 = t161
                        ·
                          rw [if_pos c66] at H
                          have c66b0 : (t163 == t161) = true := beq_iff_eq.mpr c66
                          have c66b1 : (t163 != t161) = false := bne_eq_false_iff_eq.mpr c66
                          clear c66
                          by_cases c67 : t164 = a2
                          ·
                            rw [if_pos c67] at H
                            have c67b0 : (t164 == a2) = true := beq_iff_eq.mpr c67
                            have c67b1 : (t164 != a2) = false := bne_eq_false_iff_eq.mpr c67
                            clear c67
                            replace H := Option.bind_eq_some_iff.mp H
                            obtain ⟨t177, A680, H⟩ := H
                            replace H : (if t177 = 0 then (if t166 = (t154.size : Int) then ((towropelaw05_live.f kj6).bind fun t178 => (some t178)) else (some false)) else (some false)) = some r := H
                            have A68 := Aside0.mk A680
                            clear A680
                            by_cases c69 : t177 = 0
                            ·
                              rw [if_pos c69] at H
                              have c69b0 : (t177 == 0) = true := beq_iff_eq.mpr c69
                              have c69b1 : (t177 != 0) = false := bne_eq_false_iff_eq.mpr c69
                              clear c69
                              by_cases c70 : t166 = (t154.size : Int)
                              ·
                                rw [if_pos c70] at H
                                have c70b0 : (t166 == (t154.size : Int)) = true := beq_iff_eq.mpr c70
                                have c70b1 : (t166 != (t154.size : Int)) = false := bne_eq_false_iff_eq.mpr c70
                                clear c70
                                replace H := Option.bind_eq_some_iff.mp H
                                obtain ⟨t178, A710, H⟩ := H
                                replace H : (some t178) = some r := H
                                have A71 := Aside0.mk A710
                                clear A710
                                obtain rfl := Option.some.inj H
                                go_wp2_with (first | ((with_reducible refine gate_callee (f := 34) rfl ?_); refine goesL_ (some 84) rfl rfl Tryd.func34 (by kernel_rfl) rfl #[.int .u32 a0, .int .i64 a2] rfl (by (try simp only [List.map_toArray, List.map_cons, List.map_nil]); first | done | rfl | (simp only [List.length_drop, List.length_take]; rfl) | (go_simp; done) | (go_simp; omega)) ?_; (with_reducible refine (towroperef05_Net.calls kj6 a0 a2 t161 _ A24.out).mono ?_); rintro e w' ⟨rfl, ⟨nd, rfl⟩⟩; refine ⟨_, rfl, ?_⟩) | ((with_reducible refine gate_callee (f := 35) rfl ?_); refine goesL_ (some 88) rfl rfl Tryd.func35 (by kernel_rfl) rfl #[.int .i64 a2] rfl (by (try simp only [List.map_toArray, List.map_cons, List.map_nil]); first | done | rfl | (simp only [List.length_drop, List.length_take]; rfl) | (go_simp; done) | (go_simp; omega)) ?_; (with_reducible refine (towroperef05_Size.calls kj6 a2 t162 _ A25.out).mono ?_); rintro e w' ⟨rfl, ⟨nd, rfl⟩⟩; refine ⟨_, rfl, ?_⟩) | ((with_reducible refine gate_callee (f := 36) rfl ?_); refine goesL_ (some 94) rfl rfl Tryd.func36 (by kernel_rfl) rfl #[.string t154] rfl (by (try simp only [List.map_toArray, List.map_cons, List.map_nil]); first | done | rfl | (simp only [List.length_drop, List.length_take]; rfl) | (go_simp; done) | (go_simp; omega)) ?_; (with_reducible refine (addr_ParseNet.calls kj6 t154 t163 t164 t165 t166 _ A26.out).mono ?_); rintro e w' ⟨rfl, ⟨nd, rfl⟩⟩; refine ⟨_, rfl, ?_⟩) | (go_at_call 20; (with_reducible refine (towropelaw05_code.calls t151 t167 _ A27.out).mono ?_); rintro e w' ⟨rfl, ⟨nd, rfl⟩⟩) | (go_at_call 20; (with_reducible refine (towropelaw05_code.calls t153 t168 _ A28.out).mono ?_); rintro e w' ⟨rfl, ⟨nd, rfl⟩⟩) | (go_at_call 20; (with_reducible refine (towropelaw05_code.calls t155 t169 _ A29.out).mono ?_); rintro e w' ⟨rfl, ⟨nd, rfl⟩⟩) | (go_at_call 26; (with_reducible refine (addr_In.calls a1 a0 a2 t170 _ A33.out).mono ?_); rintro e w' ⟨rfl, ⟨nd, rfl⟩⟩) | (go_at_call 19; (with_reducible refine (towroperef05_Text.calls kj6 t161 t175 _ A61.out).mono ?_); rintro e w72 ⟨rfl, hb⟩; have n0_ := Aside0.mk (below_step (by repeat (first | (with_reducible first | exact HB.out | apply below_alloc | apply pw_below_drewN | apply below_drew1) | exact HB.out)) hb); clear HB; have HB := n0_; clear n0_; (try clear hb); (try clear hb2); (try clear hk); (try clear hi)) | (go_at_call 37; (with_reducible refine (towroperef04_Number.calls kj6 a2 t176 _ A63.out).mono ?_); rintro e w73 ⟨rfl, hb⟩; have n0_ := Aside0.mk (below_step (by repeat (first | (with_reducible first | exact HB.out | apply below_alloc | apply pw_below_drewN | apply below_drew1) | exact HB.out)) hb); clear HB; have HB := n0_; clear n0_; (try clear hb); (try clear hb2); (try clear hk); (try clear hi)) | (go_at_call 20; (with_reducible refine (towropelaw05_code.calls t165 t177 _ A68.out).mono ?_); rintro e w' ⟨rfl, ⟨nd, rfl⟩⟩) | (go_at_call 23; (with_reducible refine (towropelaw05_live.calls kj6  t178 _ A71.out (ht := (by first | exact HT.out | exact Go.Proofs.YtcebnaknodghcaaDoor.HItoa.Tab.below HT.out (by repeat (first | (with_reducible first | exact HB.out | apply below_alloc | apply pw_below_drewN | apply below_drew1) | exact HB.out))))).mono ?_); rintro e w74 ⟨rfl, hb⟩; have n0_ := Aside0.mk (below_step (by repeat (first | (with_reducible first | exact HB.out | apply below_alloc | apply pw_below_drewN | apply below_drew1) | exact HB.out)) hb); clear HB; have HB := n0_; clear n0_; (try clear hb); (try clear hb2); (try clear hk); (try clear hi)))
                                go_ret
                                exact ⟨by first | rfl | (simp [errW_none, errW_some] <;> rfl) | (simp [*, errW_none, errW_some] <;> rfl), by repeat (first | (with_reducible first | exact HB.out | apply below_alloc | apply pw_below_drewN | apply below_drew1) | exact HB.out)⟩
                              ·
                                rw [if_neg c70] at H
                                have c70b0 : (t166 == (t154.size : Int)) = false := beq_eq_false_iff_ne.mpr c70
                                have c70b1 : (t166 != (t154.size : Int)) = true := bne_iff_ne.mpr c70
                                exact absurd ((Option.some.inj H).trans HRT.out) (by decide)
                            ·
                              rw [if_neg c69] at H
                              have c69b0 : (t177 == 0) = false := beq_eq_false_iff_ne.mpr c69
                              have c69b1 : (t177 != 0) = true := bne_iff_ne.mpr c69
                              exact absurd ((Option.some.inj H).trans HRT.out) (by decide)
                          ·
                            rw [if_neg c67] at H
                            have c67b0 : (t164 == a2) = false := beq_eq_false_iff_ne.mpr c67
                            have c67b1 : (t164 != a2) = true := bne_iff_ne.mpr c67
                            exact absurd ((Option.some.inj H).trans HRT.out) (by decide)
                        ·
                          rw [if_neg c66] at H
                          have c66b0 : (t163 == t161) = false := beq_eq_false_iff_ne.mpr c66
                          have c66b1 : (t163 != t161) = true := bne_iff_ne.mpr c66
                          exact absurd ((Option.some.inj H).trans HRT.out) (by decide)
                      ·
                        rw [if_neg c65] at H
                        have c65b0 : (t154.toList == ((t175 ++ (⟨#[47]⟩ : ByteArray)) ++ t176).toList) = false := beq_eq_false_iff_ne.mpr c65
                        have c65b1 : (t154.toList != ((t175 ++ (⟨#[47]⟩ : ByteArray)) ++ t176).toList) = true := bne_iff_ne.mpr c65
                        exact absurd ((Option.some.inj H).trans HRT.out) (by decide)
                    ·
                      rw [if_neg c64] at H
                      exact absurd H (by simp)
                  ·
                    rw [if_neg c62] at H
                    exact absurd H (by simp)
                ·
                  rw [if_neg c60] at H
                  have c60b0 : (t170 == false) = false := by simpa using c60
                  (try (have c60b1 : decide (t170 = false) = false := by simpa using c60))
                  (try (have c60b2 : (t170 == false) = false := by simpa using c60))
                  (try (have c60b3 : ¬ (t170 = false) := by simpa using c60))
                  clear c60
                  exact absurd ((Option.some.inj H).trans HRT.out) (by decide)
            ·
              rw [if_neg c32] at H
              have c32b0 : (t152 == ((wrap64 ((wrap64 ((wrap64 (t161)) + t162)) - 1)) % 4294967296)) = false := beq_eq_false_iff_ne.mpr c32
              have c32b1 : (t152 != ((wrap64 ((wrap64 ((wrap64 (t161)) + t162)) - 1)) % 4294967296)) = true := bne_iff_ne.mpr c32
              exact absurd ((Option.some.inj H).trans HRT.out) (by decide)
          ·
            rw [if_neg c31] at H
            have c31b0 : (t150 == t161) = false := beq_eq_false_iff_ne.mpr c31
            have c31b1 : (t150 != t161) = true := bne_iff_ne.mpr c31
            exact absurd ((Option.some.inj H).trans HRT.out) (by decide)
        ·
          rw [if_neg c30] at H
          have c30b0 : ((wrap64 ((wrap64 (t167 + t168)) + t169)) == 0) = false := beq_eq_false_iff_ne.mpr c30
          have c30b1 : ((wrap64 ((wrap64 (t167 + t168)) + t169)) != 0) = true := bne_iff_ne.mpr c30
          exact absurd ((Option.some.inj H).trans HRT.out) (by decide)

/-- THE ONE PURE STATEMENT of towropelaw05_AddrNets: yours. -/
def towropelaw05_AddrNets.Pure : Prop := ∀ (a0 : Int) (a1 : Int) (a2 : Int), (Lit.int .u32 a0).wf = true → (Lit.int .u32 a1).wf = true → (Lit.int .i64 a2).wf = true → ∃ k, towropelaw05_AddrNets.f k a0 a1 a2 = some true
theorem towropelaw05_AddrNets.walk : True := trivial


end Go.Proofs.YtcebnaknodghcaaDoor.PAdN
