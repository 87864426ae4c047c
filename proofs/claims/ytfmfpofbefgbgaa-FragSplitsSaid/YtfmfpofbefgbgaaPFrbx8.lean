-- Laid by a program of this session (wip/tools/mk.py) over the kit's print: functions, contracts, walks; not written by hand, not trusted: Lean checks it.
import Derived.Test.YtfmfpofbefgbgaaPFrbx0
import Derived.Test.YtfmfpofbefgbgaaPFrbx4
import Derived.Test.YtfmfpofbefgbgaaPFrbx5
import Derived.Test.YtfmfpofbefgbgaaPFrbx7
namespace Go.Proofs.Ytfmfpofbefgbgaa.PFrb
open Go.RowKit Go.Proofs.YtfmfpofbefgbgaaW.PrintWords Go.Proofs.YtfmfpofbefgbgaaW.PrintLast Go.Proofs.YtfmfpofbefgbgaaW.PrintMore
attribute [local go_sem] max2_int min2_int max_two min_two max_three min_three max_four min_four   -- for this text's walks alone
set_option linter.unusedVariables false
set_option linter.unusedSimpArgs false

/-! ### towroperef11_Split: function 43 -/
/-- No more is asked of a block. -/
def Triv (_ : Value) (_ : Nat) : Prop := True
mutual
def towroperef11_Split.j0 : Nat → Int → Bool → Int → Int → Bool → Bool → Int → Int → Int → Int → Int → List Int → List Int → Option ((List (S68)) × Int)
 | 0, _, _, _, _, _, _, _, _, _, _, _, _, _ => none
 | k + 1, x1, x24, x186000, x186001, x186002, x186003, x186004, x186005, x186006, x186007, x186008, x186009, x186010 => if x24 = true then (some (([] : List (S68)), 1)) else ((towroperef06_Len.f x186000 x186001 x186002 x186003 x186004 x186005 x186006 x186007 x186008 x186009 x186010).bind fun t187 => (if t187 ≤ x1 then (some ((([(⟨x186000, x186001, x186002, x186003, x186004, x186005, x186006, x186007, x186008, x186009, x186010⟩ : S68)] : List (S68))), 0)) else (if x186002 = true then (some (([] : List (S68)), 110)) else ((towroperef11_Carried.f k x186009).bind fun bt191 => (if bt191.2 = 0 then (towroperef11_Split.l0 k x1 bt191.1 ([] : List (S68)) 0 x186000 x186001 x186002 x186003 x186004 x186005 x186006 x186007 x186008 x186009 x186010) else (some (([] : List (S68)), bt191.2)))))))
def towroperef11_Split.l0 : Nat → Int → List Int → List (S68) → Int → Int → Int → Bool → Bool → Int → Int → Int → Int → Int → List Int → List Int → Option ((List (S68)) × Int)
 | 0, _, _, _, _, _, _, _, _, _, _, _, _, _, _, _ => none
 | k + 1, x1, x7, x9, x10, x186000, x186001, x186002, x186003, x186004, x186005, x186006, x186007, x186008, x186009, x186010 => if x10 < (x186010.length : Int) then (if x10 > 0 then (towroperef11_Split.j2 k x1 x7 x9 x10 x186000 x186001 x186002 x186003 x186004 x186005 x186006 x186007 x186008 x186009 x186010 x186000 x186001 x186002 x186003 x186004 x186005 x186006 x186007 x186008 x7 x186010) else (towroperef11_Split.j2 k x1 x7 x9 x10 x186000 x186001 x186002 x186003 x186004 x186005 x186006 x186007 x186008 x186009 x186010 x186000 x186001 x186002 x186003 x186004 x186005 x186006 x186007 x186008 x186009 x186010)) else (some (x9, 0))
def towroperef11_Split.j2 : Nat → Int → List Int → List (S68) → Int → Int → Int → Bool → Bool → Int → Int → Int → Int → Int → List Int → List Int → Int → Int → Bool → Bool → Int → Int → Int → Int → Int → List Int → List Int → Option ((List (S68)) × Int)
 | 0, _, _, _, _, _, _, _, _, _, _, _, _, _, _, _, _, _, _, _, _, _, _, _, _, _, _ => none
 | k + 1, x1, x7, x9, x10, x186000, x186001, x186002, x186003, x186004, x186005, x186006, x186007, x186008, x186009, x186010, x196000, x196001, x196002, x196003, x196004, x196005, x196006, x196007, x196008, x196009, x196010 => if (wrap64 (x186004 + (wrap64 (Int.tdiv x10 8)))) > 8191 then (some (([] : List (S68)), 8)) else (if (wrap64 ((x186010.length : Int) - x10)) ≤ (wrap64 ((wrap64 (x1 - 20)) - (x196009.length : Int))) then (if 0 ≤ x10 then (if x10 ≤ (x186010.length : Int) then (if x9.length < 1759218604441 then (towroperef11_Split.l0 k x1 x7 (x9 ++ [(⟨x196000, x196001, x196002, x196003, wrap64 (x186004 + (wrap64 (Int.tdiv x10 8))), x196005, x196006, x196007, x196008, x196009, (x186010.drop (x10 : Int).toNat)⟩ : S68)]) (x186010.length : Int) x186000 x186001 x186002 x186003 x186004 x186005 x186006 x186007 x186008 x186009 x186010) else (none)) else (none)) else (none)) else (if 0 ≤ x10 then (if x10 ≤ (wrap64 (x10 + (wrap64 ((wrap64 (Int.tdiv (wrap64 ((wrap64 (x1 - 20)) - (x196009.length : Int))) 8)) * 8)))) then (if (wrap64 (x10 + (wrap64 ((wrap64 (Int.tdiv (wrap64 ((wrap64 (x1 - 20)) - (x196009.length : Int))) 8)) * 8)))) ≤ (x186010.length : Int) then (if x9.length < 1759218604441 then (towroperef11_Split.l0 k x1 x7 (x9 ++ [(⟨x196000, x196001, x196002, true, wrap64 (x186004 + (wrap64 (Int.tdiv x10 8))), x196005, x196006, x196007, x196008, x196009, ((x186010.take ((wrap64 (x10 + (wrap64 ((wrap64 (Int.tdiv (wrap64 ((wrap64 (x1 - 20)) - (x196009.length : Int))) 8)) * 8)))) : Int).toNat).drop (x10 : Int).toNat)⟩ : S68)]) (wrap64 (x10 + (wrap64 ((wrap64 (Int.tdiv (wrap64 ((wrap64 (x1 - 20)) - (x196009.length : Int))) 8)) * 8)))) x186000 x186001 x186002 x186003 x186004 x186005 x186006 x186007 x186008 x186009 x186010) else (none)) else (none)) else (none)) else (none)))
end
def towroperef11_Split.f (k : Nat) (a0_0 : Int) (a0_1 : Int) (a0_2 : Bool) (a0_3 : Bool) (a0_4 : Int) (a0_5 : Int) (a0_6 : Int) (a0_7 : Int) (a0_8 : Int) (l0_9 : List Int) (l0_10 : List Int) (a1 : Int) : Option ((List (S68)) × Int) := (towroperef06_Check.f k a0_0 a0_1 a0_2 a0_3 a0_4 a0_5 a0_6 a0_7 a0_8 l0_9 l0_10).bind fun t186 => (if t186 = 0 then (if a1 < 68 then (towroperef11_Split.j0 k a1 true a0_0 a0_1 a0_2 a0_3 a0_4 a0_5 a0_6 a0_7 a0_8 l0_9 l0_10) else (towroperef11_Split.j0 k a1 (decide (a1 > 65535)) a0_0 a0_1 a0_2 a0_3 a0_4 a0_5 a0_6 a0_7 a0_8 l0_9 l0_10)) else (some (([] : List (S68)), t186)))
theorem towroperef11_Split.mono_l : ∀ k, (∀ y0 y1 y2 y3 y4 y5 y6 y7 y8 y9 y10 y11 y12, LeO (towroperef11_Split.j0 k y0 y1 y2 y3 y4 y5 y6 y7 y8 y9 y10 y11 y12) (towroperef11_Split.j0 (k + 1) y0 y1 y2 y3 y4 y5 y6 y7 y8 y9 y10 y11 y12)) ∧ (∀ y0 y1 y2 y3 y4 y5 y6 y7 y8 y9 y10 y11 y12 y13 y14, LeO (towroperef11_Split.l0 k y0 y1 y2 y3 y4 y5 y6 y7 y8 y9 y10 y11 y12 y13 y14) (towroperef11_Split.l0 (k + 1) y0 y1 y2 y3 y4 y5 y6 y7 y8 y9 y10 y11 y12 y13 y14)) ∧ (∀ y0 y1 y2 y3 y4 y5 y6 y7 y8 y9 y10 y11 y12 y13 y14 y15 y16 y17 y18 y19 y20 y21 y22 y23 y24 y25, LeO (towroperef11_Split.j2 k y0 y1 y2 y3 y4 y5 y6 y7 y8 y9 y10 y11 y12 y13 y14 y15 y16 y17 y18 y19 y20 y21 y22 y23 y24 y25) (towroperef11_Split.j2 (k + 1) y0 y1 y2 y3 y4 y5 y6 y7 y8 y9 y10 y11 y12 y13 y14 y15 y16 y17 y18 y19 y20 y21 y22 y23 y24 y25))
 | 0 => ⟨fun _ _ _ _ _ _ _ _ _ _ _ _ _ r h => by simp [towroperef11_Split.j0] at h, fun _ _ _ _ _ _ _ _ _ _ _ _ _ _ _ r h => by simp [towroperef11_Split.l0] at h, fun _ _ _ _ _ _ _ _ _ _ _ _ _ _ _ _ _ _ _ _ _ _ _ _ _ _ r h => by simp [towroperef11_Split.j2] at h⟩
 | k + 1 => by
  obtain ⟨ih0, ih1, ih2⟩ := towroperef11_Split.mono_l k
  refine ⟨?_, ?_, ?_⟩
  ·
   intro y0 y1 y2 y3 y4 y5 y6 y7 y8 y9 y10 y11 y12
   unfold towroperef11_Split.j0
   repeat' first
   | (with_reducible exact ih0 _ _ _ _ _ _ _ _ _ _ _ _ _)
   | (with_reducible exact ih1 _ _ _ _ _ _ _ _ _ _ _ _ _ _ _)
   | (with_reducible exact ih2 _ _ _ _ _ _ _ _ _ _ _ _ _ _ _ _ _ _ _ _ _ _ _ _ _ _)
   | (with_reducible exact towroperef06_Check.mono _ _ _ _ _ _ _ _ _ _ _ _)
   | (with_reducible exact towroperef11_Carried.mono _ _)
   | (with_reducible exact LeO.refl _)
   | (with_reducible exact LeO.none _)
   | (with_reducible refine LeO.ite ?_ ?_)
   | (with_reducible refine LeO.bind ?_ (fun _ => ?_))
   | exact ih0 _ _ _ _ _ _ _ _ _ _ _ _ _
   | exact ih1 _ _ _ _ _ _ _ _ _ _ _ _ _ _ _
   | exact ih2 _ _ _ _ _ _ _ _ _ _ _ _ _ _ _ _ _ _ _ _ _ _ _ _ _ _
   | exact towroperef06_Check.mono _ _ _ _ _ _ _ _ _ _ _ _
   | exact towroperef11_Carried.mono _ _
   | exact LeO.none _
   | refine LeO.ite ?_ ?_
   | refine LeO.bind ?_ (fun _ => ?_)
  ·
   intro y0 y1 y2 y3 y4 y5 y6 y7 y8 y9 y10 y11 y12 y13 y14
   unfold towroperef11_Split.l0
   repeat' first
   | (with_reducible exact ih0 _ _ _ _ _ _ _ _ _ _ _ _ _)
   | (with_reducible exact ih1 _ _ _ _ _ _ _ _ _ _ _ _ _ _ _)
   | (with_reducible exact ih2 _ _ _ _ _ _ _ _ _ _ _ _ _ _ _ _ _ _ _ _ _ _ _ _ _ _)
   | (with_reducible exact towroperef06_Check.mono _ _ _ _ _ _ _ _ _ _ _ _)
   | (with_reducible exact towroperef11_Carried.mono _ _)
   | (with_reducible exact LeO.refl _)
   | (with_reducible exact LeO.none _)
   | (with_reducible refine LeO.ite ?_ ?_)
   | (with_reducible refine LeO.bind ?_ (fun _ => ?_))
   | exact ih0 _ _ _ _ _ _ _ _ _ _ _ _ _
   | exact ih1 _ _ _ _ _ _ _ _ _ _ _ _ _ _ _
   | exact ih2 _ _ _ _ _ _ _ _ _ _ _ _ _ _ _ _ _ _ _ _ _ _ _ _ _ _
   | exact towroperef06_Check.mono _ _ _ _ _ _ _ _ _ _ _ _
   | exact towroperef11_Carried.mono _ _
   | exact LeO.none _
   | refine LeO.ite ?_ ?_
   | refine LeO.bind ?_ (fun _ => ?_)
  ·
   intro y0 y1 y2 y3 y4 y5 y6 y7 y8 y9 y10 y11 y12 y13 y14 y15 y16 y17 y18 y19 y20 y21 y22 y23 y24 y25
   unfold towroperef11_Split.j2
   repeat' first
   | (with_reducible exact ih0 _ _ _ _ _ _ _ _ _ _ _ _ _)
   | (with_reducible exact ih1 _ _ _ _ _ _ _ _ _ _ _ _ _ _ _)
   | (with_reducible exact ih2 _ _ _ _ _ _ _ _ _ _ _ _ _ _ _ _ _ _ _ _ _ _ _ _ _ _)
   | (with_reducible exact towroperef06_Check.mono _ _ _ _ _ _ _ _ _ _ _ _)
   | (with_reducible exact towroperef11_Carried.mono _ _)
   | (with_reducible exact LeO.refl _)
   | (with_reducible exact LeO.none _)
   | (with_reducible refine LeO.ite ?_ ?_)
   | (with_reducible refine LeO.bind ?_ (fun _ => ?_))
   | exact ih0 _ _ _ _ _ _ _ _ _ _ _ _ _
   | exact ih1 _ _ _ _ _ _ _ _ _ _ _ _ _ _ _
   | exact ih2 _ _ _ _ _ _ _ _ _ _ _ _ _ _ _ _ _ _ _ _ _ _ _ _ _ _
   | exact towroperef06_Check.mono _ _ _ _ _ _ _ _ _ _ _ _
   | exact towroperef11_Carried.mono _ _
   | exact LeO.none _
   | refine LeO.ite ?_ ?_
   | refine LeO.bind ?_ (fun _ => ?_)
theorem towroperef11_Split.mono : ∀ a0 a1 a2 a3 a4 a5 a6 a7 a8 a9 a10 a11 k, LeO (towroperef11_Split.f k a0 a1 a2 a3 a4 a5 a6 a7 a8 a9 a10 a11) (towroperef11_Split.f (k + 1) a0 a1 a2 a3 a4 a5 a6 a7 a8 a9 a10 a11) := by
 intro a0 a1 a2 a3 a4 a5 a6 a7 a8 a9 a10 a11 k
 obtain ⟨ih0, ih1, ih2⟩ := towroperef11_Split.mono_l k
 unfold towroperef11_Split.f
 repeat' first
   | (with_reducible exact ih0 _ _ _ _ _ _ _ _ _ _ _ _ _)
   | (with_reducible exact ih1 _ _ _ _ _ _ _ _ _ _ _ _ _ _ _)
   | (with_reducible exact ih2 _ _ _ _ _ _ _ _ _ _ _ _ _ _ _ _ _ _ _ _ _ _ _ _ _ _)
   | (with_reducible exact towroperef06_Check.mono _ _ _ _ _ _ _ _ _ _ _ _)
   | (with_reducible exact towroperef11_Carried.mono _ _)
   | (with_reducible exact LeO.refl _)
   | (with_reducible exact LeO.none _)
   | (with_reducible refine LeO.ite ?_ ?_)
   | (with_reducible refine LeO.bind ?_ (fun _ => ?_))
   | exact ih0 _ _ _ _ _ _ _ _ _ _ _ _ _
   | exact ih1 _ _ _ _ _ _ _ _ _ _ _ _ _ _ _
   | exact ih2 _ _ _ _ _ _ _ _ _ _ _ _ _ _ _ _ _ _ _ _ _ _ _ _ _ _
   | exact towroperef06_Check.mono _ _ _ _ _ _ _ _ _ _ _ _
   | exact towroperef11_Carried.mono _ _
   | exact LeO.none _
   | refine LeO.ite ?_ ?_
   | refine LeO.bind ?_ (fun _ => ?_)
set_option maxHeartbeats 8000000 in
set_option maxRecDepth 100000 in
theorem towroperef11_Split.calls (k : Nat) (a0_0 : Int) (a0_1 : Int) (a0_2 : Bool) (a0_3 : Bool) (a0_4 : Int) (a0_5 : Int) (a0_6 : Int) (a0_7 : Int) (a0_8 : Int) (P0_9_ : Nat → Prop) (A0_9 : Option Addr) (c0_9 : Nat) (l0_9 : List Int) (P0_10_ : Nat → Prop) (A0_10 : Option Addr) (c0_10 : Nat) (l0_10 : List Int) (a1 : Int) (r1 : List (S68)) (r2 : Int) (w : World) (hs0_9 : Kd.V (Kd.int .u8) 5 w w.heap.size (fun k_ => P0_9_ k_) (.slice A0_9 l0_9.length c0_9) l0_9) (hs0_10 : Kd.V (Kd.int .u8) 5 w w.heap.size (fun k_ => P0_10_ k_) (.slice A0_10 l0_10.length c0_10) l0_10) (h : towroperef11_Split.f k a0_0 a0_1 a0_2 a0_3 a0_4 a0_5 a0_6 a0_7 a0_8 l0_9 l0_10 a1 = some (r1, r2)) :
  Calls Try.prog 43 #[.agg #[.int .u8 a0_0, .int .u16 a0_1, .bool a0_2, .bool a0_3, .int .i64 a0_4, .int .u8 a0_5, .int .u8 a0_6, .int .u32 a0_7, .int .u32 a0_8, .slice A0_9 l0_9.length c0_9, .slice A0_10 l0_10.length c0_10], .int .i64 a1] w fun e w' => ∃ v0_ : Value, e = .returned (.tuple #[v0_, .int .i64 r2]) ∧ Kd.N k68 68 w' w.heap.size (fun k_ => ((P0_9_ k_ ∨ P0_10_ k_) ∨ w.heap.size ≤ k_)) v0_ r1 ∧ Below w.heap.size w w' := by
 have hu68 := Try.underlying68
 have HO0_9 := Aside0.mk (show Kd.V (Kd.int .u8) 5 w w.heap.size (fun k_ => ((P0_9_ k_ ∨ P0_10_ k_) ∨ w.heap.size ≤ k_)) (.slice A0_9 l0_9.length c0_9) l0_9 from Kd.V_mono hs0_9 (fun k_ hk => .inl (.inl hk)))
 have HO0_10 := Aside0.mk (show Kd.V (Kd.int .u8) 5 w w.heap.size (fun k_ => ((P0_9_ k_ ∨ P0_10_ k_) ∨ w.heap.size ≤ k_)) (.slice A0_10 l0_10.length c0_10) l0_10 from Kd.V_mono hs0_10 (fun k_ hk => .inl (.inr hk)))
 have HB := Aside0.mk (Below.refl w.heap.size w)
 have H : ((towroperef06_Check.f k a0_0 a0_1 a0_2 a0_3 a0_4 a0_5 a0_6 a0_7 a0_8 l0_9 l0_10).bind fun t186 => (if t186 = 0 then (if a1 < 68 then (towroperef11_Split.j0 k a1 true a0_0 a0_1 a0_2 a0_3 a0_4 a0_5 a0_6 a0_7 a0_8 l0_9 l0_10) else (towroperef11_Split.j0 k a1 (decide (a1 > 65535)) a0_0 a0_1 a0_2 a0_3 a0_4 a0_5 a0_6 a0_7 a0_8 l0_9 l0_10)) else (some (([] : List (S68)), t186)))) = some (r1, r2) := h
 clear h
 replace H := Option.bind_eq_some_iff.mp H
 obtain ⟨t186, A30, H⟩ := H
 replace H : (if t186 = 0 then (if a1 < 68 then (towroperef11_Split.j0 k a1 true a0_0 a0_1 a0_2 a0_3 a0_4 a0_5 a0_6 a0_7 a0_8 l0_9 l0_10) else (towroperef11_Split.j0 k a1 (decide (a1 > 65535)) a0_0 a0_1 a0_2 a0_3 a0_4 a0_5 a0_6 a0_7 a0_8 l0_9 l0_10)) else (some (([] : List (S68)), t186))) = some (r1, r2) := H
 have A3 := Aside0.mk A30
 clear A30
 by_cases c4 : t186 = 0
 ·
  rw [if_pos c4] at H
  have c4b0 : (t186 == 0) = true := beq_iff_eq.mpr c4
  have c4b1 : (t186 != 0) = false := bne_eq_false_iff_eq.mpr c4
  clear c4
  have HC5 := Aside0.mk H
  clear H
  go_enter Try.func43, Try.ntmps43
  go_upto_region 4 with (first | ((with_reducible refine gate_dst (N := 2) rfl ?_); refine box_event ?hg (N := 2) ?hd (cs := #[.int .u8 a0_0, .int .u16 a0_1, .bool a0_2, .bool a0_3, .int .i64 a0_4, .int .u8 a0_5, .int .u8 a0_6, .int .u32 a0_7, .int .u32 a0_8, .slice A0_9 l0_9.length c0_9, .slice A0_10 l0_10.length c0_10]) (t := 68) ?hr ?_; (case hd => rfl); (case hg => rfl); (case hr => first | (go_simp; done) | (go_simp; rfl)); intro gb185 hg w6 hbox hb; have n0_ := Aside0.mk (Kd.V_below (Kd.V_elderB (by (with_reducible repeat (first | apply Kd.V_alloc | apply Kd.V_drewN | apply Kd.V_drew)); exact HO0_9.out) gb185 (Nat.le_of_eq hg.symm)) hb); have n1_ := Aside0.mk (Kd.V_below (Kd.V_elderB (by (with_reducible repeat (first | apply Kd.V_alloc | apply Kd.V_drewN | apply Kd.V_drew)); exact HO0_10.out) gb185 (Nat.le_of_eq hg.symm)) hb); have n2_ := Aside0.mk (below_step (by repeat (first | (with_reducible first | exact HB.out | apply below_alloc | apply pw_below_drewN | apply below_drew1) | exact HB.out)) hb); have n3_ := Aside0.mk (hbox); have n4_ := Aside0.mk ((by rw [hg]; exact (below_size (by repeat (first | (with_reducible first | exact HB.out | apply below_alloc | apply pw_below_drewN | apply below_drew1) | exact HB.out))) : w.heap.size ≤ gb185)); have n5_ := Aside0.mk ((by rw [hg]; exact (below_size (by repeat (first | (with_reducible first | exact HB.out | apply below_alloc | apply pw_below_drewN | apply below_drew1) | exact HB.out))) : w.heap.size ≤ gb185)); clear HO0_9; clear HO0_10; clear HB; have HO0_9 := n0_; have HO0_10 := n1_; have HB := n2_; have BK185 := n3_; have GW185 := n4_; have GE185 := n5_; clear n0_ n1_ n2_ n3_ n4_ n5_; clear hb hbox hg; have hcz7_0 : w6.cell? ⟨gb185, 0, none⟩ = some (.int .u8 a0_0) := (blk_cell BK185.out 0).trans rfl; have hcz7_1 : w6.cell? ⟨gb185, 1, none⟩ = some (.int .u16 a0_1) := (blk_cell BK185.out 1).trans rfl; have hcz7_2 : w6.cell? ⟨gb185, 2, none⟩ = some (.bool a0_2) := (blk_cell BK185.out 2).trans rfl; have hcz7_3 : w6.cell? ⟨gb185, 3, none⟩ = some (.bool a0_3) := (blk_cell BK185.out 3).trans rfl; have hcz7_4 : w6.cell? ⟨gb185, 4, none⟩ = some (.int .i64 a0_4) := (blk_cell BK185.out 4).trans rfl; have hcz7_5 : w6.cell? ⟨gb185, 5, none⟩ = some (.int .u8 a0_5) := (blk_cell BK185.out 5).trans rfl; have hcz7_6 : w6.cell? ⟨gb185, 6, none⟩ = some (.int .u8 a0_6) := (blk_cell BK185.out 6).trans rfl; have hcz7_7 : w6.cell? ⟨gb185, 7, none⟩ = some (.int .u32 a0_7) := (blk_cell BK185.out 7).trans rfl; have hcz7_8 : w6.cell? ⟨gb185, 8, none⟩ = some (.int .u32 a0_8) := (blk_cell BK185.out 8).trans rfl; have hcz7_9 : w6.cell? ⟨gb185, 9, none⟩ = some (.slice A0_9 l0_9.length c0_9) := (blk_cell BK185.out 9).trans rfl; have hcz7_10 : w6.cell? ⟨gb185, 10, none⟩ = some (.slice A0_10 l0_10.length c0_10) := (blk_cell BK185.out 10).trans rfl; have hfz7_0 := blk_frozen BK185.out 0; have hfz7_1 := blk_frozen BK185.out 1; have hfz7_2 := blk_frozen BK185.out 2; have hfz7_3 := blk_frozen BK185.out 3; have hfz7_4 := blk_frozen BK185.out 4; have hfz7_5 := blk_frozen BK185.out 5; have hfz7_6 := blk_frozen BK185.out 6; have hfz7_7 := blk_frozen BK185.out 7; have hfz7_8 := blk_frozen BK185.out 8; have hfz7_9 := blk_frozen BK185.out 9; have hfz7_10 := blk_frozen BK185.out 10) | ((with_reducible refine gate_callee (f := 72) rfl ?_); refine goesL_ (some 15) rfl rfl Try.func72 (by kernel_rfl) rfl #[.agg #[.int .u8 a0_0, .int .u16 a0_1, .bool a0_2, .bool a0_3, .int .i64 a0_4, .int .u8 a0_5, .int .u8 a0_6, .int .u32 a0_7, .int .u32 a0_8, .slice A0_9 l0_9.length c0_9, .slice A0_10 l0_10.length c0_10]] rfl (by (try simp only [List.map_toArray, List.map_cons, List.map_nil]); first | done | rfl | (simp only [List.length_drop, List.length_take]; rfl) | (go_simp; done) | (go_simp; omega)) ?_; (with_reducible refine (towroperef06_Check.calls k a0_0 a0_1 a0_2 a0_3 a0_4 a0_5 a0_6 a0_7 a0_8 _ _ l0_9 _ _ l0_10 t186 _ ?side1 ?side2 ?side3 ?side4 A3.out).mono ?_); (case side1 => repeat (first | exact (Kd.V_reads' HO0_9.out).2.2 | (with_reducible refine Kd.C_alloc ?_ _) | (with_reducible refine Kd.C_drewN ?_ _) | (with_reducible refine Kd.C_drew ?_))); (case side2 => exact (Kd.V_reads' HO0_9.out).2.1); (case side3 => repeat (first | exact (Kd.V_reads' HO0_10.out).2.2 | (with_reducible refine Kd.C_alloc ?_ _) | (with_reducible refine Kd.C_drewN ?_ _) | (with_reducible refine Kd.C_drew ?_))); (case side4 => exact (Kd.V_reads' HO0_10.out).2.1); rintro e w8 ⟨rfl, hb⟩; refine ⟨_, rfl, ?_⟩; have n0_ := Aside0.mk (Kd.V_below (by (with_reducible repeat (first | apply Kd.V_alloc | apply Kd.V_drewN | apply Kd.V_drew)); exact HO0_9.out) hb); have n1_ := Aside0.mk (Kd.V_below (by (with_reducible repeat (first | apply Kd.V_alloc | apply Kd.V_drewN | apply Kd.V_drew)); exact HO0_10.out) hb); have n2_ := Aside0.mk (blk_below (g := gb185) (o := .cells #[.int .u8 a0_0, .int .u16 a0_1, .bool a0_2, .bool a0_3, .int .i64 a0_4, .int .u8 a0_5, .int .u8 a0_6, .int .u32 a0_7, .int .u32 a0_8, .slice A0_9 l0_9.length c0_9, .slice A0_10 l0_10.length c0_10] 68 (0, 0)) (by (with_reducible repeat (first | refine blk_drewN ?_ _ | refine blk_drew ?_ | refine blk_alloc ?_ _)); exact BK185.out) hb); have n3_ := Aside0.mk (below_step (by repeat (first | (with_reducible first | exact HB.out | apply below_alloc | apply pw_below_drewN | apply below_drew1 | refine below_set ?_ GE185.out) | exact HB.out)) hb); clear HO0_9; clear HO0_10; clear BK185; clear HB; have HO0_9 := n0_; have HO0_10 := n1_; have BK185 := n2_; have HB := n3_; clear n0_ n1_ n2_ n3_; (try clear hb); (try clear hb2); (try clear hk); (try clear hi)))
  (try simp only [Act.put, List.setIfInBounds_toArray, List.set_cons_zero, List.set_cons_succ])
  go_cut [24] (fun v24 wc => ∃ (kq : Nat) (x24_4 : Bool), v24 = .bool x24_4 ∧ Aside0 (towroperef11_Split.j0 kq a1 x24_4 a0_0 a0_1 a0_2 a0_3 a0_4 a0_5 a0_6 a0_7 a0_8 l0_9 l0_10 = some (r1, r2)) ∧ Aside0 (kq ≤ k) ∧ Aside0 (Kd.V (Kd.int .u8) 5 wc w.heap.size (fun k_ => ((P0_9_ k_ ∨ P0_10_ k_) ∨ w.heap.size ≤ k_) ∧ k_ ≠ gb185) (.slice A0_9 l0_9.length c0_9) l0_9) ∧ Aside0 (Kd.V (Kd.int .u8) 5 wc w.heap.size (fun k_ => ((P0_9_ k_ ∨ P0_10_ k_) ∨ w.heap.size ≤ k_) ∧ k_ ≠ gb185) (.slice A0_10 l0_10.length c0_10) l0_10) ∧ Aside0 (wc.heap[gb185]? = some (.cells #[.int .u8 a0_0, .int .u16 a0_1, .bool a0_2, .bool a0_3, .int .i64 a0_4, .int .u8 a0_5, .int .u8 a0_6, .int .u32 a0_7, .int .u32 a0_8, (.slice A0_9 l0_9.length c0_9), (.slice A0_10 l0_10.length c0_10)] 68 (0, 0))) ∧ Aside0 (Below w.heap.size w wc))
  case first =>
   have H := HC5.out
   clear HC5
   by_cases c9 : a1 < 68
   ·
    rw [if_pos c9] at H
    have c9b0 : decide (a1 < 68) = true := decide_eq_true c9
    clear c9
    (first | rw [c9b0] | (simp only [i64_w, i32_w]; rw [c9b0]) | skip)
    have H' := Aside0.mk H
    clear H
    go_wp2
    go_meet
    case rel => exact ⟨_, (true), (by first | rfl | (simp; done) | (simp [*]; done)), H', ⟨by first | omega | exact Nat.le_refl _⟩, ⟨by (with_reducible repeat (first | apply Kd.V_alloc | apply Kd.V_drewN | apply Kd.V_drew)); exact HO0_9.out⟩, ⟨by (with_reducible repeat (first | apply Kd.V_alloc | apply Kd.V_drewN | apply Kd.V_drew)); exact HO0_10.out⟩, ⟨by (with_reducible repeat (first | refine blk_drewN ?_ _ | refine blk_drew ?_ | refine blk_alloc ?_ _)); exact BK185.out⟩, ⟨by repeat (first | (with_reducible first | exact HB.out | apply below_alloc | apply pw_below_drewN | apply below_drew1 | refine below_set ?_ GE185.out) | exact HB.out)⟩⟩
   ·
    rw [if_neg c9] at H
    have c9b0 : decide (a1 < 68) = false := decide_eq_false c9
    clear c9
    (first | rw [c9b0] | (simp only [i64_w, i32_w]; rw [c9b0]) | skip)
    have H' := Aside0.mk H
    clear H
    go_wp2
    go_meet
    case rel => exact ⟨_, (decide (a1 > 65535)), (by first | rfl | (simp; done) | (simp [*]; done)), H', ⟨by first | omega | exact Nat.le_refl _⟩, ⟨by (with_reducible repeat (first | apply Kd.V_alloc | apply Kd.V_drewN | apply Kd.V_drew)); exact HO0_9.out⟩, ⟨by (with_reducible repeat (first | apply Kd.V_alloc | apply Kd.V_drewN | apply Kd.V_drew)); exact HO0_10.out⟩, ⟨by (with_reducible repeat (first | refine blk_drewN ?_ _ | refine blk_drew ?_ | refine blk_alloc ?_ _)); exact BK185.out⟩, ⟨by repeat (first | (with_reducible first | exact HB.out | apply below_alloc | apply pw_below_drewN | apply below_drew1 | refine below_set ?_ GE185.out) | exact HB.out)⟩⟩
  case rest =>
   clear HC5
   try clear p2
   try clear c4
   try clear c4b0
   try clear c4b1
   try clear c7
   try clear c9
   try clear c9b0
   try clear hcz7_0
   try clear hcz7_1
   try clear hcz7_10
   try clear hcz7_2
   try clear hcz7_3
   try clear hcz7_4
   try clear hcz7_5
   try clear hcz7_6
   try clear hcz7_7
   try clear hcz7_8
   try clear hcz7_9
   try clear hfz7_0
   try clear hfz7_1
   try clear hfz7_10
   try clear hfz7_2
   try clear hfz7_3
   try clear hfz7_4
   try clear hfz7_5
   try clear hfz7_6
   try clear hfz7_7
   try clear hfz7_8
   try clear hfz7_9
   obtain ⟨kq, x24_4, rfl, HA, HJ4, HO_186009, HO_186010, BK185, HB⟩ := hcut
   cases kq with
   | zero => exact absurd HA.out (by simp [towroperef11_Split.j0])
   | succ kj4 =>
    have H := HA.out
    clear HA
    simp only [towroperef11_Split.j0] at H
    by_cases c10 : x24_4 = true
    ·
     subst c10
     have H1 : (some (([] : List (S68)), 1)) = some (r1, r2) := by rw [if_pos rfl] at H; exact H
     clear H
     have H := H1
     clear H1
     simp only [Option.some.injEq, Prod.mk.injEq] at H
     obtain ⟨rfl, rfl⟩ := H
     go_wp2
     go_ret2
     exact ⟨_, by first | rfl | (simp [errW_none, errW_some] <;> rfl) | (simp [*, errW_none, errW_some] <;> rfl), by first | exact Kd.S_nil _ _ _ _ _ | exact Kd.N_nil _ _ _ _ _ | exact Kd.V_nil _ _ _ _ _ | exact Kd.Q_nil _ _ _ _ _ | exact Kd.R_nil _ _ _ _ _, by repeat (first | (with_reducible first | exact HB.out | apply below_alloc | apply pw_below_drewN | apply below_drew1 | refine below_set ?_ GE185.out) | exact HB.out)⟩
    ·
     replace c10 := Bool.eq_false_iff.mpr c10
     subst c10
     have H1 : ((towroperef06_Len.f a0_0 a0_1 a0_2 a0_3 a0_4 a0_5 a0_6 a0_7 a0_8 l0_9 l0_10).bind fun t187 => (if t187 ≤ a1 then (some ((([(⟨a0_0, a0_1, a0_2, a0_3, a0_4, a0_5, a0_6, a0_7, a0_8, l0_9, l0_10⟩ : S68)] : List (S68))), 0)) else (if a0_2 = true then (some (([] : List (S68)), 110)) else ((towroperef11_Carried.f kj4 l0_9).bind fun bt191 => (if bt191.2 = 0 then (towroperef11_Split.l0 kj4 a1 bt191.1 ([] : List (S68)) 0 a0_0 a0_1 a0_2 a0_3 a0_4 a0_5 a0_6 a0_7 a0_8 l0_9 l0_10) else (some (([] : List (S68)), bt191.2))))))) = some (r1, r2) := by rw [if_neg (show ¬ (false = true) by decide)] at H; exact H
     clear H
     have H := H1
     clear H1
     replace H := Option.bind_eq_some_iff.mp H
     obtain ⟨t187, A110, H⟩ := H
     replace H : (if t187 ≤ a1 then (some ((([(⟨a0_0, a0_1, a0_2, a0_3, a0_4, a0_5, a0_6, a0_7, a0_8, l0_9, l0_10⟩ : S68)] : List (S68))), 0)) else (if a0_2 = true then (some (([] : List (S68)), 110)) else ((towroperef11_Carried.f kj4 l0_9).bind fun bt191 => (if bt191.2 = 0 then (towroperef11_Split.l0 kj4 a1 bt191.1 ([] : List (S68)) 0 a0_0 a0_1 a0_2 a0_3 a0_4 a0_5 a0_6 a0_7 a0_8 l0_9 l0_10) else (some (([] : List (S68)), bt191.2)))))) = some (r1, r2) := H
     have A11 := Aside0.mk A110
     clear A110
     by_cases c12 : t187 ≤ a1
     ·
      rw [if_pos c12] at H
      have c12b0 : decide (t187 ≤ a1) = true := decide_eq_true c12
      clear c12
      obtain ⟨y188, hy188⟩ : ∃ y_ : List (S68), y_ = (([(⟨a0_0, a0_1, a0_2, a0_3, a0_4, a0_5, a0_6, a0_7, a0_8, l0_9, l0_10⟩ : S68)] : List (S68))) := ⟨_, rfl⟩
      replace H : (some (y188, 0)) = some (r1, r2) := by first | (rw [hy188]; with_reducible exact H) | (have H2_ := (Option.bind_some _ _).symm.trans H; rw [hy188]; with_reducible exact H2_) | (have H2_ := (Option.bind_some _ _).symm.trans H; with_reducible exact H2_) | with_reducible exact H | (rw [hy188]; exact H) | exact H
      have Ny188 := Aside0.mk hy188
      clear hy188
      simp only [Option.some.injEq, Prod.mk.injEq] at H
      obtain ⟨rfl, rfl⟩ := H
      have hcz13_0 : wc.cell? ⟨gb185, 0, none⟩ = some (.int .u8 a0_0) := (blk_cell BK185.out 0).trans rfl
      have hcz13_1 : wc.cell? ⟨gb185, 1, none⟩ = some (.int .u16 a0_1) := (blk_cell BK185.out 1).trans rfl
      have hcz13_2 : wc.cell? ⟨gb185, 2, none⟩ = some (.bool a0_2) := (blk_cell BK185.out 2).trans rfl
      have hcz13_3 : wc.cell? ⟨gb185, 3, none⟩ = some (.bool a0_3) := (blk_cell BK185.out 3).trans rfl
      have hcz13_4 : wc.cell? ⟨gb185, 4, none⟩ = some (.int .i64 a0_4) := (blk_cell BK185.out 4).trans rfl
      have hcz13_5 : wc.cell? ⟨gb185, 5, none⟩ = some (.int .u8 a0_5) := (blk_cell BK185.out 5).trans rfl
      have hcz13_6 : wc.cell? ⟨gb185, 6, none⟩ = some (.int .u8 a0_6) := (blk_cell BK185.out 6).trans rfl
      have hcz13_7 : wc.cell? ⟨gb185, 7, none⟩ = some (.int .u32 a0_7) := (blk_cell BK185.out 7).trans rfl
      have hcz13_8 : wc.cell? ⟨gb185, 8, none⟩ = some (.int .u32 a0_8) := (blk_cell BK185.out 8).trans rfl
      have hcz13_9 : wc.cell? ⟨gb185, 9, none⟩ = some (.slice A0_9 l0_9.length c0_9) := (blk_cell BK185.out 9).trans rfl
      have hcz13_10 : wc.cell? ⟨gb185, 10, none⟩ = some (.slice A0_10 l0_10.length c0_10) := (blk_cell BK185.out 10).trans rfl
      have hfz13_0 := blk_frozen BK185.out 0
      have hfz13_1 := blk_frozen BK185.out 1
      have hfz13_2 := blk_frozen BK185.out 2
      have hfz13_3 := blk_frozen BK185.out 3
      have hfz13_4 := blk_frozen BK185.out 4
      have hfz13_5 := blk_frozen BK185.out 5
      have hfz13_6 := blk_frozen BK185.out 6
      have hfz13_7 := blk_frozen BK185.out 7
      have hfz13_8 := blk_frozen BK185.out 8
      have hfz13_9 := blk_frozen BK185.out 9
      have hfz13_10 := blk_frozen BK185.out 10
      go_wp2_with (first | ((with_reducible refine gate_callee (f := 41) rfl ?_); refine goesL_ (some 26) rfl rfl Try.func41 (by kernel_rfl) rfl #[.agg #[.int .u8 a0_0, .int .u16 a0_1, .bool a0_2, .bool a0_3, .int .i64 a0_4, .int .u8 a0_5, .int .u8 a0_6, .int .u32 a0_7, .int .u32 a0_8, .slice A0_9 l0_9.length c0_9, .slice A0_10 l0_10.length c0_10]] rfl (by (try simp only [List.map_toArray, List.map_cons, List.map_nil]); first | done | rfl | (simp only [List.length_drop, List.length_take]; rfl) | (go_simp; done) | (go_simp; omega)) ?_; (with_reducible refine (towroperef06_Len.calls a0_0 a0_1 a0_2 a0_3 a0_4 a0_5 a0_6 a0_7 a0_8 _ _ l0_9 _ _ l0_10 t187 _ ?side1 ?side2 ?side3 ?side4 A11.out).mono ?_); (case side1 => repeat (first | exact (Kd.V_reads' HO_186009.out).2.2 | (with_reducible refine Kd.C_alloc ?_ _) | (with_reducible refine Kd.C_drewN ?_ _) | (with_reducible refine Kd.C_drew ?_))); (case side2 => exact (Kd.V_reads' HO_186009.out).2.1); (case side3 => repeat (first | exact (Kd.V_reads' HO_186010.out).2.2 | (with_reducible refine Kd.C_alloc ?_ _) | (with_reducible refine Kd.C_drewN ?_ _) | (with_reducible refine Kd.C_drew ?_))); (case side4 => exact (Kd.V_reads' HO_186010.out).2.1); rintro e w14 ⟨rfl, hb⟩; refine ⟨_, rfl, ?_⟩; have n0_ := Aside0.mk (Kd.V_below (by (with_reducible repeat (first | apply Kd.V_alloc | apply Kd.V_drewN | apply Kd.V_drew)); exact HO_186009.out) hb); have n1_ := Aside0.mk (Kd.V_below (by (with_reducible repeat (first | apply Kd.V_alloc | apply Kd.V_drewN | apply Kd.V_drew)); exact HO_186010.out) hb); have n2_ := Aside0.mk (blk_below (g := gb185) (o := .cells #[.int .u8 a0_0, .int .u16 a0_1, .bool a0_2, .bool a0_3, .int .i64 a0_4, .int .u8 a0_5, .int .u8 a0_6, .int .u32 a0_7, .int .u32 a0_8, .slice A0_9 l0_9.length c0_9, .slice A0_10 l0_10.length c0_10] 68 (0, 0)) (by (with_reducible repeat (first | refine blk_drewN ?_ _ | refine blk_drew ?_ | refine blk_alloc ?_ _)); exact BK185.out) hb); have n3_ := Aside0.mk (below_step (by repeat (first | (with_reducible first | exact HB.out | apply below_alloc | apply pw_below_drewN | apply below_drew1 | refine below_set ?_ GE185.out) | exact HB.out)) hb); clear HO_186009; clear HO_186010; clear BK185; clear HB; have HO_186009 := n0_; have HO_186010 := n1_; have BK185 := n2_; have HB := n3_; clear n0_ n1_ n2_ n3_; (try clear hb); (try clear hb2); (try clear hk); (try clear hi); have hcz15_0 : w14.cell? ⟨gb185, 0, none⟩ = some (.int .u8 a0_0) := (blk_cell BK185.out 0).trans rfl; have hcz15_1 : w14.cell? ⟨gb185, 1, none⟩ = some (.int .u16 a0_1) := (blk_cell BK185.out 1).trans rfl; have hcz15_2 : w14.cell? ⟨gb185, 2, none⟩ = some (.bool a0_2) := (blk_cell BK185.out 2).trans rfl; have hcz15_3 : w14.cell? ⟨gb185, 3, none⟩ = some (.bool a0_3) := (blk_cell BK185.out 3).trans rfl; have hcz15_4 : w14.cell? ⟨gb185, 4, none⟩ = some (.int .i64 a0_4) := (blk_cell BK185.out 4).trans rfl; have hcz15_5 : w14.cell? ⟨gb185, 5, none⟩ = some (.int .u8 a0_5) := (blk_cell BK185.out 5).trans rfl; have hcz15_6 : w14.cell? ⟨gb185, 6, none⟩ = some (.int .u8 a0_6) := (blk_cell BK185.out 6).trans rfl; have hcz15_7 : w14.cell? ⟨gb185, 7, none⟩ = some (.int .u32 a0_7) := (blk_cell BK185.out 7).trans rfl; have hcz15_8 : w14.cell? ⟨gb185, 8, none⟩ = some (.int .u32 a0_8) := (blk_cell BK185.out 8).trans rfl; have hcz15_9 : w14.cell? ⟨gb185, 9, none⟩ = some (.slice A0_9 l0_9.length c0_9) := (blk_cell BK185.out 9).trans rfl; have hcz15_10 : w14.cell? ⟨gb185, 10, none⟩ = some (.slice A0_10 l0_10.length c0_10) := (blk_cell BK185.out 10).trans rfl; have hfz15_0 := blk_frozen BK185.out 0; have hfz15_1 := blk_frozen BK185.out 1; have hfz15_2 := blk_frozen BK185.out 2; have hfz15_3 := blk_frozen BK185.out 3; have hfz15_4 := blk_frozen BK185.out 4; have hfz15_5 := blk_frozen BK185.out 5; have hfz15_6 := blk_frozen BK185.out 6; have hfz15_7 := blk_frozen BK185.out 7; have hfz15_8 := blk_frozen BK185.out 8; have hfz15_9 := blk_frozen BK185.out 9; have hfz15_10 := blk_frozen BK185.out 10) | ((with_reducible refine gate_dst (N := 30) rfl ?_); refine Kd.N_lit k68 _ 68 ?hg (N' := 30) ?hd (xs := ([(⟨a0_0, a0_1, a0_2, a0_3, a0_4, a0_5, a0_6, a0_7, a0_8, l0_9, l0_10⟩ : S68)] : List (S68))) (inner := [.int .u8 a0_0, .int .u16 a0_1, .bool a0_2, .bool a0_3, .int .i64 a0_4, .int .u8 a0_5, .int .u8 a0_6, .int .u32 a0_7, .int .u32 a0_8, .slice A0_9 l0_9.length c0_9, .slice A0_10 l0_10.length c0_10]) (ok := (fun k_ => ((P0_9_ k_ ∨ P0_10_ k_) ∨ w.heap.size ≤ k_) ∧ k_ ≠ gb185)) (okp := (fun k_ => ((P0_9_ k_ ∨ P0_10_ k_) ∨ w.heap.size ≤ k_) ∧ k_ ≠ gb185)) ?hr ?hp (fun _ hk => hk) ((show ∀ k_, w14.heap.size ≤ k_ → (fun k_ => ((P0_9_ k_ ∨ P0_10_ k_) ∨ w.heap.size ≤ k_) ∧ k_ ≠ gb185) k_ from fun k_ hk => ⟨(.inr (Nat.le_trans (below_size (by repeat (first | (with_reducible first | exact HB.out | apply below_alloc | apply pw_below_drewN | apply below_drew1 | refine below_set ?_ GE185.out) | exact HB.out))) hk)), Kd.freshB (g := gb185) (o := .cells #[.int .u8 a0_0, .int .u16 a0_1, .bool a0_2, .bool a0_3, .int .i64 a0_4, .int .u8 a0_5, .int .u8 a0_6, .int .u32 a0_7, .int .u32 a0_8, .slice A0_9 l0_9.length c0_9, .slice A0_10 l0_10.length c0_10] 68 (0, 0)) (by (with_reducible repeat (first | refine blk_drewN ?_ _ | refine blk_drew ?_ | refine blk_alloc ?_ _)); exact BK185.out) k_ hk⟩) _ (Nat.le_refl _)) (Below.refl _ _) (Nat.le_refl _) (by simp) ?_; (case hd => rfl); (case hg => rfl); (case hr => first | (go_simp; done) | (go_simp; rfl)); (case hp => exact (Reps.front (show Kd.FK k68 _ _ (⟨a0_0, a0_1, a0_2, a0_3, a0_4, a0_5, a0_6, a0_7, a0_8, l0_9, l0_10⟩ : S68) [.int .u8 a0_0, .int .u16 a0_1, .bool a0_2, .bool a0_3, .int .i64 a0_4, .int .u8 a0_5, .int .u8 a0_6, .int .u32 a0_7, .int .u32 a0_8, .slice A0_9 l0_9.length c0_9, .slice A0_10 l0_10.length c0_10] from (k68_mkF _ _ (⟨a0_0, a0_1, a0_2, a0_3, a0_4, a0_5, a0_6, a0_7, a0_8, l0_9, l0_10⟩ : S68) (Kd.V_reads' (Kd.V_mono (ok' := (fun k_ => ((P0_9_ k_ ∨ P0_10_ k_) ∨ w.heap.size ≤ k_) ∧ k_ ≠ gb185)) (HO_186009.out) (fun k_ hk => ⟨hk.1, hk.2⟩))).2.1 (Kd.V_F (Kd.V_mono (ok' := (fun k_ => ((P0_9_ k_ ∨ P0_10_ k_) ∨ w.heap.size ≤ k_) ∧ k_ ≠ gb185)) (HO_186009.out) (fun k_ hk => ⟨hk.1, hk.2⟩))) (Kd.V_reads' (Kd.V_mono (ok' := (fun k_ => ((P0_9_ k_ ∨ P0_10_ k_) ∨ w.heap.size ≤ k_) ∧ k_ ≠ gb185)) (HO_186010.out) (fun k_ hk => ⟨hk.1, hk.2⟩))).2.1 (Kd.V_F (Kd.V_mono (ok' := (fun k_ => ((P0_9_ k_ ∨ P0_10_ k_) ∨ w.heap.size ≤ k_) ∧ k_ ≠ gb185)) (HO_186010.out) (fun k_ hk => ⟨hk.1, hk.2⟩))))) rfl (Reps.none _ _) rfl)); intro v189 w16 ho17 hb hg_ hnew_; clear hg_ hnew_; (first | rw [← Ny188.out] at ho17 | (simp only [Int.reduceToNat] at ho17; rw [← Ny188.out] at ho17)); have n0_ := Aside0.mk (Kd.V_elder' (by (with_reducible repeat (first | apply Kd.V_alloc | apply Kd.V_drewN | apply Kd.V_drew)); exact HO_186009.out) (Kd.N_base ho17) hb); have n1_ := Aside0.mk (Kd.V_elder' (by (with_reducible repeat (first | apply Kd.V_alloc | apply Kd.V_drewN | apply Kd.V_drew)); exact HO_186010.out) (Kd.N_base ho17) hb); have n2_ := Aside0.mk (Kd.N_lower ho17 (below_size (by repeat (first | (with_reducible first | exact HB.out | apply below_alloc | apply pw_below_drewN | apply below_drew1 | refine below_set ?_ GE185.out) | exact HB.out)))); have n3_ := Aside0.mk (blk_below (g := gb185) (o := .cells #[.int .u8 a0_0, .int .u16 a0_1, .bool a0_2, .bool a0_3, .int .i64 a0_4, .int .u8 a0_5, .int .u8 a0_6, .int .u32 a0_7, .int .u32 a0_8, .slice A0_9 l0_9.length c0_9, .slice A0_10 l0_10.length c0_10] 68 (0, 0)) (by (with_reducible repeat (first | refine blk_drewN ?_ _ | refine blk_drew ?_ | refine blk_alloc ?_ _)); exact BK185.out) hb); have n4_ := Aside0.mk (below_step (by repeat (first | (with_reducible first | exact HB.out | apply below_alloc | apply pw_below_drewN | apply below_drew1 | refine below_set ?_ GE185.out) | exact HB.out)) hb); clear HO_186009; clear HO_186010; clear BK185; clear HB; have HO_186009 := n0_; have HO_186010 := n1_; have HO190 := n2_; have BK185 := n3_; have HB := n4_; clear n0_ n1_ n2_ n3_ n4_; clear hb ho17))
      go_ret2
      exact ⟨_, by first | rfl | (simp [errW_none, errW_some] <;> rfl) | (simp [*, errW_none, errW_some] <;> rfl), by (with_reducible repeat (first | apply Kd.N_alloc | apply Kd.N_drewN | apply Kd.N_drew)); exact Kd.N_mono HO190.out (fun _ hk => hk.1), by repeat (first | (with_reducible first | exact HB.out | apply below_alloc | apply pw_below_drewN | apply below_drew1 | refine below_set ?_ GE185.out) | exact HB.out)⟩
     ·
      rw [if_neg c12] at H
      have c12b0 : decide (t187 ≤ a1) = false := decide_eq_false c12
      clear c12
      by_cases c18 : a0_2 = true
      ·
       subst c18
       have H1 : (some (([] : List (S68)), 110)) = some (r1, r2) := by rw [if_pos rfl] at H; exact H
       clear H
       have H := H1
       clear H1
       simp only [Option.some.injEq, Prod.mk.injEq] at H
       obtain ⟨rfl, rfl⟩ := H
       have hcz19_0 : wc.cell? ⟨gb185, 0, none⟩ = some (.int .u8 a0_0) := (blk_cell BK185.out 0).trans rfl
       have hcz19_1 : wc.cell? ⟨gb185, 1, none⟩ = some (.int .u16 a0_1) := (blk_cell BK185.out 1).trans rfl
       have hcz19_2 : wc.cell? ⟨gb185, 2, none⟩ = some (.bool true) := (blk_cell BK185.out 2).trans rfl
       have hcz19_3 : wc.cell? ⟨gb185, 3, none⟩ = some (.bool a0_3) := (blk_cell BK185.out 3).trans rfl
       have hcz19_4 : wc.cell? ⟨gb185, 4, none⟩ = some (.int .i64 a0_4) := (blk_cell BK185.out 4).trans rfl
       have hcz19_5 : wc.cell? ⟨gb185, 5, none⟩ = some (.int .u8 a0_5) := (blk_cell BK185.out 5).trans rfl
       have hcz19_6 : wc.cell? ⟨gb185, 6, none⟩ = some (.int .u8 a0_6) := (blk_cell BK185.out 6).trans rfl
       have hcz19_7 : wc.cell? ⟨gb185, 7, none⟩ = some (.int .u32 a0_7) := (blk_cell BK185.out 7).trans rfl
       have hcz19_8 : wc.cell? ⟨gb185, 8, none⟩ = some (.int .u32 a0_8) := (blk_cell BK185.out 8).trans rfl
       have hcz19_9 : wc.cell? ⟨gb185, 9, none⟩ = some (.slice A0_9 l0_9.length c0_9) := (blk_cell BK185.out 9).trans rfl
       have hcz19_10 : wc.cell? ⟨gb185, 10, none⟩ = some (.slice A0_10 l0_10.length c0_10) := (blk_cell BK185.out 10).trans rfl
       have hfz19_0 := blk_frozen BK185.out 0
       have hfz19_1 := blk_frozen BK185.out 1
       have hfz19_2 := blk_frozen BK185.out 2
       have hfz19_3 := blk_frozen BK185.out 3
       have hfz19_4 := blk_frozen BK185.out 4
       have hfz19_5 := blk_frozen BK185.out 5
       have hfz19_6 := blk_frozen BK185.out 6
       have hfz19_7 := blk_frozen BK185.out 7
       have hfz19_8 := blk_frozen BK185.out 8
       have hfz19_9 := blk_frozen BK185.out 9
       have hfz19_10 := blk_frozen BK185.out 10
       go_wp2_with (first | ((with_reducible refine gate_callee (f := 41) rfl ?_); refine goesL_ (some 26) rfl rfl Try.func41 (by kernel_rfl) rfl #[.agg #[.int .u8 a0_0, .int .u16 a0_1, .bool true, .bool a0_3, .int .i64 a0_4, .int .u8 a0_5, .int .u8 a0_6, .int .u32 a0_7, .int .u32 a0_8, .slice A0_9 l0_9.length c0_9, .slice A0_10 l0_10.length c0_10]] rfl (by (try simp only [List.map_toArray, List.map_cons, List.map_nil]); first | done | rfl | (simp only [List.length_drop, List.length_take]; rfl) | (go_simp; done) | (go_simp; omega)) ?_; (with_reducible refine (towroperef06_Len.calls a0_0 a0_1 true a0_3 a0_4 a0_5 a0_6 a0_7 a0_8 _ _ l0_9 _ _ l0_10 t187 _ ?side1 ?side2 ?side3 ?side4 A11.out).mono ?_); (case side1 => repeat (first | exact (Kd.V_reads' HO_186009.out).2.2 | (with_reducible refine Kd.C_alloc ?_ _) | (with_reducible refine Kd.C_drewN ?_ _) | (with_reducible refine Kd.C_drew ?_))); (case side2 => exact (Kd.V_reads' HO_186009.out).2.1); (case side3 => repeat (first | exact (Kd.V_reads' HO_186010.out).2.2 | (with_reducible refine Kd.C_alloc ?_ _) | (with_reducible refine Kd.C_drewN ?_ _) | (with_reducible refine Kd.C_drew ?_))); (case side4 => exact (Kd.V_reads' HO_186010.out).2.1); rintro e w20 ⟨rfl, hb⟩; refine ⟨_, rfl, ?_⟩; have n0_ := Aside0.mk (Kd.V_below (by (with_reducible repeat (first | apply Kd.V_alloc | apply Kd.V_drewN | apply Kd.V_drew)); exact HO_186009.out) hb); have n1_ := Aside0.mk (Kd.V_below (by (with_reducible repeat (first | apply Kd.V_alloc | apply Kd.V_drewN | apply Kd.V_drew)); exact HO_186010.out) hb); have n2_ := Aside0.mk (blk_below (g := gb185) (o := .cells #[.int .u8 a0_0, .int .u16 a0_1, .bool true, .bool a0_3, .int .i64 a0_4, .int .u8 a0_5, .int .u8 a0_6, .int .u32 a0_7, .int .u32 a0_8, .slice A0_9 l0_9.length c0_9, .slice A0_10 l0_10.length c0_10] 68 (0, 0)) (by (with_reducible repeat (first | refine blk_drewN ?_ _ | refine blk_drew ?_ | refine blk_alloc ?_ _)); exact BK185.out) hb); have n3_ := Aside0.mk (below_step (by repeat (first | (with_reducible first | exact HB.out | apply below_alloc | apply pw_below_drewN | apply below_drew1 | refine below_set ?_ GE185.out) | exact HB.out)) hb); clear HO_186009; clear HO_186010; clear BK185; clear HB; have HO_186009 := n0_; have HO_186010 := n1_; have BK185 := n2_; have HB := n3_; clear n0_ n1_ n2_ n3_; (try clear hb); (try clear hb2); (try clear hk); (try clear hi); have hcz21_0 : w20.cell? ⟨gb185, 0, none⟩ = some (.int .u8 a0_0) := (blk_cell BK185.out 0).trans rfl; have hcz21_1 : w20.cell? ⟨gb185, 1, none⟩ = some (.int .u16 a0_1) := (blk_cell BK185.out 1).trans rfl; have hcz21_2 : w20.cell? ⟨gb185, 2, none⟩ = some (.bool true) := (blk_cell BK185.out 2).trans rfl; have hcz21_3 : w20.cell? ⟨gb185, 3, none⟩ = some (.bool a0_3) := (blk_cell BK185.out 3).trans rfl; have hcz21_4 : w20.cell? ⟨gb185, 4, none⟩ = some (.int .i64 a0_4) := (blk_cell BK185.out 4).trans rfl; have hcz21_5 : w20.cell? ⟨gb185, 5, none⟩ = some (.int .u8 a0_5) := (blk_cell BK185.out 5).trans rfl; have hcz21_6 : w20.cell? ⟨gb185, 6, none⟩ = some (.int .u8 a0_6) := (blk_cell BK185.out 6).trans rfl; have hcz21_7 : w20.cell? ⟨gb185, 7, none⟩ = some (.int .u32 a0_7) := (blk_cell BK185.out 7).trans rfl; have hcz21_8 : w20.cell? ⟨gb185, 8, none⟩ = some (.int .u32 a0_8) := (blk_cell BK185.out 8).trans rfl; have hcz21_9 : w20.cell? ⟨gb185, 9, none⟩ = some (.slice A0_9 l0_9.length c0_9) := (blk_cell BK185.out 9).trans rfl; have hcz21_10 : w20.cell? ⟨gb185, 10, none⟩ = some (.slice A0_10 l0_10.length c0_10) := (blk_cell BK185.out 10).trans rfl; have hfz21_0 := blk_frozen BK185.out 0; have hfz21_1 := blk_frozen BK185.out 1; have hfz21_2 := blk_frozen BK185.out 2; have hfz21_3 := blk_frozen BK185.out 3; have hfz21_4 := blk_frozen BK185.out 4; have hfz21_5 := blk_frozen BK185.out 5; have hfz21_6 := blk_frozen BK185.out 6; have hfz21_7 := blk_frozen BK185.out 7; have hfz21_8 := blk_frozen BK185.out 8; have hfz21_9 := blk_frozen BK185.out 9; have hfz21_10 := blk_frozen BK185.out 10))
       go_ret2
       exact ⟨_, by first | rfl | (simp [errW_none, errW_some] <;> rfl) | (simp [*, errW_none, errW_some] <;> rfl), by first | exact Kd.S_nil _ _ _ _ _ | exact Kd.N_nil _ _ _ _ _ | exact Kd.V_nil _ _ _ _ _ | exact Kd.Q_nil _ _ _ _ _ | exact Kd.R_nil _ _ _ _ _, by repeat (first | (with_reducible first | exact HB.out | apply below_alloc | apply pw_below_drewN | apply below_drew1 | refine below_set ?_ GE185.out) | exact HB.out)⟩
      ·
       replace c18 := Bool.eq_false_iff.mpr c18
       subst c18
       have H1 : ((towroperef11_Carried.f kj4 l0_9).bind fun bt191 => (if bt191.2 = 0 then (towroperef11_Split.l0 kj4 a1 bt191.1 ([] : List (S68)) 0 a0_0 a0_1 false a0_3 a0_4 a0_5 a0_6 a0_7 a0_8 l0_9 l0_10) else (some (([] : List (S68)), bt191.2)))) = some (r1, r2) := by rw [if_neg (show ¬ (false = true) by decide)] at H; exact H
       clear H
       have H := H1
       clear H1
       replace H := Option.bind_eq_some_iff.mp H
       obtain ⟨⟨t191, t192⟩, A220, H⟩ := H
       replace H : (if t192 = 0 then (towroperef11_Split.l0 kj4 a1 t191 ([] : List (S68)) 0 a0_0 a0_1 false a0_3 a0_4 a0_5 a0_6 a0_7 a0_8 l0_9 l0_10) else (some (([] : List (S68)), t192))) = some (r1, r2) := H
       have A22 := Aside0.mk A220
       clear A220
       by_cases c23 : t192 = 0
       ·
        rw [if_pos c23] at H
        have c23b0 : (t192 == 0) = true := beq_iff_eq.mpr c23
        have c23b1 : (t192 != 0) = false := bne_eq_false_iff_eq.mpr c23
        clear c23
        have H' := Aside0.mk H
        clear H
        have hcz24_0 : wc.cell? ⟨gb185, 0, none⟩ = some (.int .u8 a0_0) := (blk_cell BK185.out 0).trans rfl
        have hcz24_1 : wc.cell? ⟨gb185, 1, none⟩ = some (.int .u16 a0_1) := (blk_cell BK185.out 1).trans rfl
        have hcz24_2 : wc.cell? ⟨gb185, 2, none⟩ = some (.bool false) := (blk_cell BK185.out 2).trans rfl
        have hcz24_3 : wc.cell? ⟨gb185, 3, none⟩ = some (.bool a0_3) := (blk_cell BK185.out 3).trans rfl
        have hcz24_4 : wc.cell? ⟨gb185, 4, none⟩ = some (.int .i64 a0_4) := (blk_cell BK185.out 4).trans rfl
        have hcz24_5 : wc.cell? ⟨gb185, 5, none⟩ = some (.int .u8 a0_5) := (blk_cell BK185.out 5).trans rfl
        have hcz24_6 : wc.cell? ⟨gb185, 6, none⟩ = some (.int .u8 a0_6) := (blk_cell BK185.out 6).trans rfl
        have hcz24_7 : wc.cell? ⟨gb185, 7, none⟩ = some (.int .u32 a0_7) := (blk_cell BK185.out 7).trans rfl
        have hcz24_8 : wc.cell? ⟨gb185, 8, none⟩ = some (.int .u32 a0_8) := (blk_cell BK185.out 8).trans rfl
        have hcz24_9 : wc.cell? ⟨gb185, 9, none⟩ = some (.slice A0_9 l0_9.length c0_9) := (blk_cell BK185.out 9).trans rfl
        have hcz24_10 : wc.cell? ⟨gb185, 10, none⟩ = some (.slice A0_10 l0_10.length c0_10) := (blk_cell BK185.out 10).trans rfl
        have hfz24_0 := blk_frozen BK185.out 0
        have hfz24_1 := blk_frozen BK185.out 1
        have hfz24_2 := blk_frozen BK185.out 2
        have hfz24_3 := blk_frozen BK185.out 3
        have hfz24_4 := blk_frozen BK185.out 4
        have hfz24_5 := blk_frozen BK185.out 5
        have hfz24_6 := blk_frozen BK185.out 6
        have hfz24_7 := blk_frozen BK185.out 7
        have hfz24_8 := blk_frozen BK185.out 8
        have hfz24_9 := blk_frozen BK185.out 9
        have hfz24_10 := blk_frozen BK185.out 10
        go_wp2_with (first | ((with_reducible refine gate_callee (f := 41) rfl ?_); refine goesL_ (some 26) rfl rfl Try.func41 (by kernel_rfl) rfl #[.agg #[.int .u8 a0_0, .int .u16 a0_1, .bool false, .bool a0_3, .int .i64 a0_4, .int .u8 a0_5, .int .u8 a0_6, .int .u32 a0_7, .int .u32 a0_8, .slice A0_9 l0_9.length c0_9, .slice A0_10 l0_10.length c0_10]] rfl (by (try simp only [List.map_toArray, List.map_cons, List.map_nil]); first | done | rfl | (simp only [List.length_drop, List.length_take]; rfl) | (go_simp; done) | (go_simp; omega)) ?_; (with_reducible refine (towroperef06_Len.calls a0_0 a0_1 false a0_3 a0_4 a0_5 a0_6 a0_7 a0_8 _ _ l0_9 _ _ l0_10 t187 _ ?side1 ?side2 ?side3 ?side4 A11.out).mono ?_); (case side1 => repeat (first | exact (Kd.V_reads' HO_186009.out).2.2 | (with_reducible refine Kd.C_alloc ?_ _) | (with_reducible refine Kd.C_drewN ?_ _) | (with_reducible refine Kd.C_drew ?_))); (case side2 => exact (Kd.V_reads' HO_186009.out).2.1); (case side3 => repeat (first | exact (Kd.V_reads' HO_186010.out).2.2 | (with_reducible refine Kd.C_alloc ?_ _) | (with_reducible refine Kd.C_drewN ?_ _) | (with_reducible refine Kd.C_drew ?_))); (case side4 => exact (Kd.V_reads' HO_186010.out).2.1); rintro e w25 ⟨rfl, hb⟩; refine ⟨_, rfl, ?_⟩; have n0_ := Aside0.mk (Kd.V_below (by (with_reducible repeat (first | apply Kd.V_alloc | apply Kd.V_drewN | apply Kd.V_drew)); exact HO_186009.out) hb); have n1_ := Aside0.mk (Kd.V_below (by (with_reducible repeat (first | apply Kd.V_alloc | apply Kd.V_drewN | apply Kd.V_drew)); exact HO_186010.out) hb); have n2_ := Aside0.mk (blk_below (g := gb185) (o := .cells #[.int .u8 a0_0, .int .u16 a0_1, .bool false, .bool a0_3, .int .i64 a0_4, .int .u8 a0_5, .int .u8 a0_6, .int .u32 a0_7, .int .u32 a0_8, .slice A0_9 l0_9.length c0_9, .slice A0_10 l0_10.length c0_10] 68 (0, 0)) (by (with_reducible repeat (first | refine blk_drewN ?_ _ | refine blk_drew ?_ | refine blk_alloc ?_ _)); exact BK185.out) hb); have n3_ := Aside0.mk (below_step (by repeat (first | (with_reducible first | exact HB.out | apply below_alloc | apply pw_below_drewN | apply below_drew1 | refine below_set ?_ GE185.out) | exact HB.out)) hb); clear HO_186009; clear HO_186010; clear BK185; clear HB; have HO_186009 := n0_; have HO_186010 := n1_; have BK185 := n2_; have HB := n3_; clear n0_ n1_ n2_ n3_; (try clear hb); (try clear hb2); (try clear hk); (try clear hi); have hcz26_0 : w25.cell? ⟨gb185, 0, none⟩ = some (.int .u8 a0_0) := (blk_cell BK185.out 0).trans rfl; have hcz26_1 : w25.cell? ⟨gb185, 1, none⟩ = some (.int .u16 a0_1) := (blk_cell BK185.out 1).trans rfl; have hcz26_2 : w25.cell? ⟨gb185, 2, none⟩ = some (.bool false) := (blk_cell BK185.out 2).trans rfl; have hcz26_3 : w25.cell? ⟨gb185, 3, none⟩ = some (.bool a0_3) := (blk_cell BK185.out 3).trans rfl; have hcz26_4 : w25.cell? ⟨gb185, 4, none⟩ = some (.int .i64 a0_4) := (blk_cell BK185.out 4).trans rfl; have hcz26_5 : w25.cell? ⟨gb185, 5, none⟩ = some (.int .u8 a0_5) := (blk_cell BK185.out 5).trans rfl; have hcz26_6 : w25.cell? ⟨gb185, 6, none⟩ = some (.int .u8 a0_6) := (blk_cell BK185.out 6).trans rfl; have hcz26_7 : w25.cell? ⟨gb185, 7, none⟩ = some (.int .u32 a0_7) := (blk_cell BK185.out 7).trans rfl; have hcz26_8 : w25.cell? ⟨gb185, 8, none⟩ = some (.int .u32 a0_8) := (blk_cell BK185.out 8).trans rfl; have hcz26_9 : w25.cell? ⟨gb185, 9, none⟩ = some (.slice A0_9 l0_9.length c0_9) := (blk_cell BK185.out 9).trans rfl; have hcz26_10 : w25.cell? ⟨gb185, 10, none⟩ = some (.slice A0_10 l0_10.length c0_10) := (blk_cell BK185.out 10).trans rfl; have hfz26_0 := blk_frozen BK185.out 0; have hfz26_1 := blk_frozen BK185.out 1; have hfz26_2 := blk_frozen BK185.out 2; have hfz26_3 := blk_frozen BK185.out 3; have hfz26_4 := blk_frozen BK185.out 4; have hfz26_5 := blk_frozen BK185.out 5; have hfz26_6 := blk_frozen BK185.out 6; have hfz26_7 := blk_frozen BK185.out 7; have hfz26_8 := blk_frozen BK185.out 8; have hfz26_9 := blk_frozen BK185.out 9; have hfz26_10 := blk_frozen BK185.out 10) | ((with_reducible refine gate_callee (f := 37) rfl ?_); refine goesL_ (some 36) rfl rfl Try.func37 (by kernel_rfl) rfl #[.slice A0_9 l0_9.length c0_9] rfl (by (try simp only [List.map_toArray, List.map_cons, List.map_nil]); first | done | rfl | (simp only [List.length_drop, List.length_take]; rfl) | (go_simp; done) | (go_simp; omega)) ?_; (with_reducible refine (towroperef11_Carried.calls kj4 _ _ l0_9 t191 t192 _ ?side1 ?side2 A22.out).mono ?_); (case side1 => repeat (first | exact (Kd.V_reads' HO_186009.out).2.2 | (with_reducible refine Kd.C_alloc ?_ _) | (with_reducible refine Kd.C_drewN ?_ _) | (with_reducible refine Kd.C_drew ?_))); (case side2 => exact (Kd.V_reads' HO_186009.out).2.1); rintro e w27 ⟨v193, rfl, ho0, hb⟩; refine ⟨_, rfl, ?_⟩; have n0_ := Aside0.mk (Kd.V_elder' (by (with_reducible repeat (first | apply Kd.V_alloc | apply Kd.V_drewN | apply Kd.V_drew)); exact HO_186009.out) (Kd.R_base ho0) hb); have n1_ := Aside0.mk (Kd.V_elder' (by (with_reducible repeat (first | apply Kd.V_alloc | apply Kd.V_drewN | apply Kd.V_drew)); exact HO_186010.out) (Kd.R_base ho0) hb); have n2_ := Aside0.mk (Kd.R_lower (Kd.R_newM (M := fun k_ => (w.heap.size ≤ k_)) ho0 (below_size (by repeat (first | (with_reducible first | exact HB.out | apply below_alloc | apply pw_below_drewN | apply below_drew1 | refine below_set ?_ GE185.out) | exact HB.out))) (fun k_ h_ => h_)) (below_size (by repeat (first | (with_reducible first | exact HB.out | apply below_alloc | apply pw_below_drewN | apply below_drew1 | refine below_set ?_ GE185.out) | exact HB.out)))); have n3_ := Aside0.mk (blk_below (g := gb185) (o := .cells #[.int .u8 a0_0, .int .u16 a0_1, .bool false, .bool a0_3, .int .i64 a0_4, .int .u8 a0_5, .int .u8 a0_6, .int .u32 a0_7, .int .u32 a0_8, .slice A0_9 l0_9.length c0_9, .slice A0_10 l0_10.length c0_10] 68 (0, 0)) (by (with_reducible repeat (first | refine blk_drewN ?_ _ | refine blk_drew ?_ | refine blk_alloc ?_ _)); exact BK185.out) hb); have n4_ := Aside0.mk (below_step (by repeat (first | (with_reducible first | exact HB.out | apply below_alloc | apply pw_below_drewN | apply below_drew1 | refine below_set ?_ GE185.out) | exact HB.out)) hb); clear HO_186009; clear HO_186010; clear BK185; clear HB; have HO_186009 := n0_; have HO_186010 := n1_; have HO194 := n2_; have BK185 := n3_; have HB := n4_; clear n0_ n1_ n2_ n3_ n4_; (try clear hb); (try clear hb2); (try clear hk); (try clear hi); (try clear ho0)))
        go_loopg [9, 10] kj4 (fun kq v9 v10 w' => ∃ (x9_2 : List (S68)) (x10_2 : Int), v10 = .int .i64 x10_2 ∧ Aside0 (towroperef11_Split.l0 kq a1 t191 x9_2 x10_2 a0_0 a0_1 false a0_3 a0_4 a0_5 a0_6 a0_7 a0_8 l0_9 l0_10 = some (r1, r2)) ∧ Aside0 (kq ≤ kj4) ∧ Aside0 (Kd.R (Kd.int .u8) 5 w' w.heap.size (fun k_ => (w.heap.size ≤ k_)) v193 t191) ∧ Aside0 (Kd.N k68 68 w' w.heap.size (fun k_ => ((P0_9_ k_ ∨ P0_10_ k_) ∨ w.heap.size ≤ k_) ∧ Triv v193 k_ ∧ k_ ≠ gb185) v9 x9_2) ∧ Aside0 (Kd.V (Kd.int .u8) 5 w' w.heap.size (fun k_ => ((P0_9_ k_ ∨ P0_10_ k_) ∨ w.heap.size ≤ k_) ∧ Triv v193 k_ ∧ some k_ ≠ (v9 : Value).ownBlock ∧ k_ ≠ gb185) (.slice A0_9 l0_9.length c0_9) l0_9) ∧ Aside0 (Kd.V (Kd.int .u8) 5 w' w.heap.size (fun k_ => ((P0_9_ k_ ∨ P0_10_ k_) ∨ w.heap.size ≤ k_) ∧ Triv v193 k_ ∧ some k_ ≠ (v9 : Value).ownBlock ∧ k_ ≠ gb185) (.slice A0_10 l0_10.length c0_10) l0_10) ∧ Aside0 (w'.heap[gb185]? = some (.cells #[.int .u8 a0_0, .int .u16 a0_1, .bool false, .bool a0_3, .int .i64 a0_4, .int .u8 a0_5, .int .u8 a0_6, .int .u32 a0_7, .int .u32 a0_8, (.slice A0_9 l0_9.length c0_9), (.slice A0_10 l0_10.length c0_10)] 68 (0, 0))) ∧ Aside0 (Below w.heap.size w w'))
        case atStart => exact ⟨(([] : List (S68))), (0), (by first | rfl | (simp; done) | (simp [*]; done)), H', ⟨Nat.le_refl _⟩, ⟨by (with_reducible repeat (first | apply Kd.R_alloc | apply Kd.R_drewN | apply Kd.R_drew)); exact Kd.R_mono HO194.out (fun _ hk => hk.1)⟩, ⟨by first | exact Kd.S_nil _ _ _ _ _ | exact Kd.N_nil _ _ _ _ _ | exact Kd.V_nil _ _ _ _ _ | exact Kd.Q_nil _ _ _ _ _ | exact Kd.R_nil _ _ _ _ _⟩, ⟨by (with_reducible repeat (first | apply Kd.V_alloc | apply Kd.V_drewN | apply Kd.V_drew)); exact Kd.V_mono HO_186009.out (fun _ hk => ⟨hk.1.1, ⟨trivial, ⟨(by simp [Value.ownBlock]), hk.1.2⟩⟩⟩)⟩, ⟨by (with_reducible repeat (first | apply Kd.V_alloc | apply Kd.V_drewN | apply Kd.V_drew)); exact Kd.V_mono HO_186010.out (fun _ hk => ⟨hk.1.1, ⟨trivial, ⟨(by simp [Value.ownBlock]), hk.1.2⟩⟩⟩)⟩, ⟨by (with_reducible repeat (first | refine blk_drewN ?_ _ | refine blk_drew ?_ | refine blk_alloc ?_ _)); exact BK185.out⟩, ⟨by repeat (first | (with_reducible first | exact HB.out | apply below_alloc | apply pw_below_drewN | apply below_drew1 | refine below_set ?_ GE185.out) | exact HB.out)⟩⟩
        case round =>
         clear H'
         try clear c1
         try clear c2
         try clear p2
         try clear c3
         try clear c4
         try clear c4b0
         try clear c4b1
         try clear c7
         try clear c9
         try clear c9b0
         try clear c10
         try clear c12
         try clear c12b0
         try clear c18
         try clear c23
         try clear c23b0
         try clear c23b1
         try clear hcz13_0
         try clear hcz13_1
         try clear hcz13_10
         try clear hcz13_2
         try clear hcz13_3
         try clear hcz13_4
         try clear hcz13_5
         try clear hcz13_6
         try clear hcz13_7
         try clear hcz13_8
         try clear hcz13_9
         try clear hcz15_0
         try clear hcz15_1
         try clear hcz15_10
         try clear hcz15_2
         try clear hcz15_3
         try clear hcz15_4
         try clear hcz15_5
         try clear hcz15_6
         try clear hcz15_7
         try clear hcz15_8
         try clear hcz15_9
         try clear hcz19_0
         try clear hcz19_1
         try clear hcz19_10
         try clear hcz19_2
         try clear hcz19_3
         try clear hcz19_4
         try clear hcz19_5
         try clear hcz19_6
         try clear hcz19_7
         try clear hcz19_8
         try clear hcz19_9
         try clear hcz21_0
         try clear hcz21_1
         try clear hcz21_10
         try clear hcz21_2
         try clear hcz21_3
         try clear hcz21_4
         try clear hcz21_5
         try clear hcz21_6
         try clear hcz21_7
         try clear hcz21_8
         try clear hcz21_9
         try clear hcz24_0
         try clear hcz24_1
         try clear hcz24_10
         try clear hcz24_2
         try clear hcz24_3
         try clear hcz24_4
         try clear hcz24_5
         try clear hcz24_6
         try clear hcz24_7
         try clear hcz24_8
         try clear hcz24_9
         try clear hcz26_0
         try clear hcz26_1
         try clear hcz26_10
         try clear hcz26_2
         try clear hcz26_3
         try clear hcz26_4
         try clear hcz26_5
         try clear hcz26_6
         try clear hcz26_7
         try clear hcz26_8
         try clear hcz26_9
         try clear hcz7_0
         try clear hcz7_1
         try clear hcz7_10
         try clear hcz7_2
         try clear hcz7_3
         try clear hcz7_4
         try clear hcz7_5
         try clear hcz7_6
         try clear hcz7_7
         try clear hcz7_8
         try clear hcz7_9
         try clear hfz13_0
         try clear hfz13_1
         try clear hfz13_10
         try clear hfz13_2
         try clear hfz13_3
         try clear hfz13_4
         try clear hfz13_5
         try clear hfz13_6
         try clear hfz13_7
         try clear hfz13_8
         try clear hfz13_9
         try clear hfz15_0
         try clear hfz15_1
         try clear hfz15_10
         try clear hfz15_2
         try clear hfz15_3
         try clear hfz15_4
         try clear hfz15_5
         try clear hfz15_6
         try clear hfz15_7
         try clear hfz15_8
         try clear hfz15_9
         try clear hfz19_0
         try clear hfz19_1
         try clear hfz19_10
         try clear hfz19_2
         try clear hfz19_3
         try clear hfz19_4
         try clear hfz19_5
         try clear hfz19_6
         try clear hfz19_7
         try clear hfz19_8
         try clear hfz19_9
         try clear hfz21_0
         try clear hfz21_1
         try clear hfz21_10
         try clear hfz21_2
         try clear hfz21_3
         try clear hfz21_4
         try clear hfz21_5
         try clear hfz21_6
         try clear hfz21_7
         try clear hfz21_8
         try clear hfz21_9
         try clear hfz24_0
         try clear hfz24_1
         try clear hfz24_10
         try clear hfz24_2
         try clear hfz24_3
         try clear hfz24_4
         try clear hfz24_5
         try clear hfz24_6
         try clear hfz24_7
         try clear hfz24_8
         try clear hfz24_9
         try clear hfz26_0
         try clear hfz26_1
         try clear hfz26_10
         try clear hfz26_2
         try clear hfz26_3
         try clear hfz26_4
         try clear hfz26_5
         try clear hfz26_6
         try clear hfz26_7
         try clear hfz26_8
         try clear hfz26_9
         try clear hfz7_0
         try clear hfz7_1
         try clear hfz7_10
         try clear hfz7_2
         try clear hfz7_3
         try clear hfz7_4
         try clear hfz7_5
         try clear hfz7_6
         try clear hfz7_7
         try clear hfz7_8
         try clear hfz7_9
         try clear p2
         obtain ⟨x9_2, x10_2, rfl, HA, HK2, HO_7, HO_9, HO_186009, HO_186010, BK185, HB⟩ := hrel
         cases gk with
         | zero => exact absurd HA.out (by simp [towroperef11_Split.l0])
         | succ k2 =>
          have H := HA.out
          clear HA
          simp only [towroperef11_Split.l0] at H
          by_cases c28 : x10_2 < (l0_10.length : Int)
          ·
           rw [if_pos c28] at H
           have c28b0 : decide (x10_2 < (l0_10.length : Int)) = true := decide_eq_true c28
           clear c28
           have HC29 := Aside0.mk H
           clear H
           have hcz30_0 : wr.cell? ⟨gb185, 0, none⟩ = some (.int .u8 a0_0) := (blk_cell BK185.out 0).trans rfl
           have hcz30_1 : wr.cell? ⟨gb185, 1, none⟩ = some (.int .u16 a0_1) := (blk_cell BK185.out 1).trans rfl
           have hcz30_2 : wr.cell? ⟨gb185, 2, none⟩ = some (.bool false) := (blk_cell BK185.out 2).trans rfl
           have hcz30_3 : wr.cell? ⟨gb185, 3, none⟩ = some (.bool a0_3) := (blk_cell BK185.out 3).trans rfl
           have hcz30_4 : wr.cell? ⟨gb185, 4, none⟩ = some (.int .i64 a0_4) := (blk_cell BK185.out 4).trans rfl
           have hcz30_5 : wr.cell? ⟨gb185, 5, none⟩ = some (.int .u8 a0_5) := (blk_cell BK185.out 5).trans rfl
           have hcz30_6 : wr.cell? ⟨gb185, 6, none⟩ = some (.int .u8 a0_6) := (blk_cell BK185.out 6).trans rfl
           have hcz30_7 : wr.cell? ⟨gb185, 7, none⟩ = some (.int .u32 a0_7) := (blk_cell BK185.out 7).trans rfl
           have hcz30_8 : wr.cell? ⟨gb185, 8, none⟩ = some (.int .u32 a0_8) := (blk_cell BK185.out 8).trans rfl
           have hcz30_9 : wr.cell? ⟨gb185, 9, none⟩ = some (.slice A0_9 l0_9.length c0_9) := (blk_cell BK185.out 9).trans rfl
           have hcz30_10 : wr.cell? ⟨gb185, 10, none⟩ = some (.slice A0_10 l0_10.length c0_10) := (blk_cell BK185.out 10).trans rfl
           have hfz30_0 := blk_frozen BK185.out 0
           have hfz30_1 := blk_frozen BK185.out 1
           have hfz30_2 := blk_frozen BK185.out 2
           have hfz30_3 := blk_frozen BK185.out 3
           have hfz30_4 := blk_frozen BK185.out 4
           have hfz30_5 := blk_frozen BK185.out 5
           have hfz30_6 := blk_frozen BK185.out 6
           have hfz30_7 := blk_frozen BK185.out 7
           have hfz30_8 := blk_frozen BK185.out 8
           have hfz30_9 := blk_frozen BK185.out 9
           have hfz30_10 := blk_frozen BK185.out 10
           go_upto_if 49 with (first | ((with_reducible refine gate_dst (N := 11) rfl ?_); refine box_event ?hg (N := 11) ?hd (cs := #[.int .u8 0, .int .u16 0, .bool false, .bool false, .int .i64 0, .int .u8 0, .int .u8 0, .int .u32 0, .int .u32 0, .slice none 0 0, .slice none 0 0]) (t := 68) ?hr ?_; (case hd => rfl); (case hg => rfl); (case hr => first | (go_simp; done) | (go_simp; rfl)); intro gb195 hg w31 hbox hb; have n0_ := Aside0.mk (Kd.R_below (by (with_reducible repeat (first | apply Kd.R_alloc | apply Kd.R_drewN | apply Kd.R_drew)); exact HO_7.out) hb); have n1_ := Aside0.mk (Kd.N_below (Kd.N_elderB (by (with_reducible repeat (first | apply Kd.N_alloc | apply Kd.N_drewN | apply Kd.N_drew)); exact HO_9.out) gb195 (Nat.le_of_eq hg.symm)) hb); have n2_ := Aside0.mk (Kd.V_below (Kd.V_elderB (by (with_reducible repeat (first | apply Kd.V_alloc | apply Kd.V_drewN | apply Kd.V_drew)); exact HO_186009.out) gb195 (Nat.le_of_eq hg.symm)) hb); have n3_ := Aside0.mk (Kd.V_below (Kd.V_elderB (by (with_reducible repeat (first | apply Kd.V_alloc | apply Kd.V_drewN | apply Kd.V_drew)); exact HO_186010.out) gb195 (Nat.le_of_eq hg.symm)) hb); have n4_ := Aside0.mk (blk_below (g := gb185) (o := .cells #[.int .u8 a0_0, .int .u16 a0_1, .bool false, .bool a0_3, .int .i64 a0_4, .int .u8 a0_5, .int .u8 a0_6, .int .u32 a0_7, .int .u32 a0_8, .slice A0_9 l0_9.length c0_9, .slice A0_10 l0_10.length c0_10] 68 (0, 0)) (by (with_reducible repeat (first | refine blk_drewN ?_ _ | refine blk_drew ?_ | refine blk_alloc ?_ _)); exact BK185.out) hb); have n5_ := Aside0.mk (below_step (by repeat (first | (with_reducible first | exact HB.out | apply below_alloc | apply pw_below_drewN | apply below_drew1 | refine below_set ?_ GE185.out) | exact HB.out)) hb); have n6_ := Aside0.mk (hbox); have n7_ := Aside0.mk ((by rw [hg]; exact (below_size (by repeat (first | (with_reducible first | exact HB.out | apply below_alloc | apply pw_below_drewN | apply below_drew1 | refine below_set ?_ GE185.out) | exact HB.out))) : w.heap.size ≤ gb195)); have n8_ := Aside0.mk ((by rw [hg]; exact (below_size (by repeat (first | (with_reducible first | exact HB.out | apply below_alloc | apply pw_below_drewN | apply below_drew1 | refine below_set ?_ GE185.out) | exact HB.out))) : w.heap.size ≤ gb195)); have n9_ := Aside0.mk ((by rw [hg]; exact Nat.ne_of_lt (blk_lt (g := gb185) (o := .cells #[.int .u8 a0_0, .int .u16 a0_1, .bool false, .bool a0_3, .int .i64 a0_4, .int .u8 a0_5, .int .u8 a0_6, .int .u32 a0_7, .int .u32 a0_8, .slice A0_9 l0_9.length c0_9, .slice A0_10 l0_10.length c0_10] 68 (0, 0)) (by (with_reducible repeat (first | refine blk_drewN ?_ _ | refine blk_drew ?_ | refine blk_alloc ?_ _)); exact BK185.out)) : gb185 ≠ gb195)); have n10_ := Aside0.mk ((by rw [hg]; exact Nat.ne_of_gt (blk_lt (g := gb185) (o := .cells #[.int .u8 a0_0, .int .u16 a0_1, .bool false, .bool a0_3, .int .i64 a0_4, .int .u8 a0_5, .int .u8 a0_6, .int .u32 a0_7, .int .u32 a0_8, .slice A0_9 l0_9.length c0_9, .slice A0_10 l0_10.length c0_10] 68 (0, 0)) (by (with_reducible repeat (first | refine blk_drewN ?_ _ | refine blk_drew ?_ | refine blk_alloc ?_ _)); exact BK185.out)) : gb195 ≠ gb185)); clear HO_7; clear HO_9; clear HO_186009; clear HO_186010; clear BK185; clear HB; have HO_7 := n0_; have HO_9 := n1_; have HO_186009 := n2_; have HO_186010 := n3_; have BK185 := n4_; have HB := n5_; have BK195 := n6_; have GW195 := n7_; have GE195 := n8_; have NB185_195 := n9_; have NB195_185 := n10_; clear n0_ n1_ n2_ n3_ n4_ n5_ n6_ n7_ n8_ n9_ n10_; clear hb hbox hg; have hnb32 := NB195_185.out; have hnc32 := NB185_195.out; have hcz33_0 : w31.cell? ⟨gb195, 0, none⟩ = some (.int .u8 0) := (blk_cell BK195.out 0).trans rfl; have hcz33_1 : w31.cell? ⟨gb195, 1, none⟩ = some (.int .u16 0) := (blk_cell BK195.out 1).trans rfl; have hcz33_2 : w31.cell? ⟨gb195, 2, none⟩ = some (.bool false) := (blk_cell BK195.out 2).trans rfl; have hcz33_3 : w31.cell? ⟨gb195, 3, none⟩ = some (.bool false) := (blk_cell BK195.out 3).trans rfl; have hcz33_4 : w31.cell? ⟨gb195, 4, none⟩ = some (.int .i64 0) := (blk_cell BK195.out 4).trans rfl; have hcz33_5 : w31.cell? ⟨gb195, 5, none⟩ = some (.int .u8 0) := (blk_cell BK195.out 5).trans rfl; have hcz33_6 : w31.cell? ⟨gb195, 6, none⟩ = some (.int .u8 0) := (blk_cell BK195.out 6).trans rfl; have hcz33_7 : w31.cell? ⟨gb195, 7, none⟩ = some (.int .u32 0) := (blk_cell BK195.out 7).trans rfl; have hcz33_8 : w31.cell? ⟨gb195, 8, none⟩ = some (.int .u32 0) := (blk_cell BK195.out 8).trans rfl; have hcz33_9 : w31.cell? ⟨gb195, 9, none⟩ = some (.slice none 0 0) := (blk_cell BK195.out 9).trans rfl; have hcz33_10 : w31.cell? ⟨gb195, 10, none⟩ = some (.slice none 0 0) := (blk_cell BK195.out 10).trans rfl; have hfz33_0 := blk_frozen BK195.out 0; have hfz33_1 := blk_frozen BK195.out 1; have hfz33_2 := blk_frozen BK195.out 2; have hfz33_3 := blk_frozen BK195.out 3; have hfz33_4 := blk_frozen BK195.out 4; have hfz33_5 := blk_frozen BK195.out 5; have hfz33_6 := blk_frozen BK195.out 6; have hfz33_7 := blk_frozen BK195.out 7; have hfz33_8 := blk_frozen BK195.out 8; have hfz33_9 := blk_frozen BK195.out 9; have hfz33_10 := blk_frozen BK195.out 10))
           (try simp only [Act.put, List.setIfInBounds_toArray, List.set_cons_zero, List.set_cons_succ])
           go_cut [] (fun wc => ∃ (kq : Nat) (x196009_28 : List Int) (u196009 : Value), Aside0 (towroperef11_Split.j2 kq a1 t191 x9_2 x10_2 a0_0 a0_1 false a0_3 a0_4 a0_5 a0_6 a0_7 a0_8 l0_9 l0_10 a0_0 a0_1 false a0_3 a0_4 a0_5 a0_6 a0_7 a0_8 x196009_28 l0_10 = some (r1, r2)) ∧ Aside0 (kq ≤ k2) ∧ Aside0 (Kd.R (Kd.int .u8) 5 wc w.heap.size (fun k_ => (w.heap.size ≤ k_)) v193 t191) ∧ Aside0 (Kd.N k68 68 wc w.heap.size (fun k_ => ((P0_9_ k_ ∨ P0_10_ k_) ∨ w.heap.size ≤ k_) ∧ Triv v193 k_ ∧ k_ ≠ gb185 ∧ k_ ≠ gb195) u9 x9_2) ∧ Aside0 (Kd.V (Kd.int .u8) 5 wc w.heap.size (fun k_ => ((P0_9_ k_ ∨ P0_10_ k_) ∨ w.heap.size ≤ k_) ∧ Triv v193 k_ ∧ some k_ ≠ (u9 : Value).ownBlock ∧ k_ ≠ gb185 ∧ k_ ≠ gb195) (.slice A0_9 l0_9.length c0_9) l0_9) ∧ Aside0 (Kd.V (Kd.int .u8) 5 wc w.heap.size (fun k_ => ((P0_9_ k_ ∨ P0_10_ k_) ∨ w.heap.size ≤ k_) ∧ Triv v193 k_ ∧ some k_ ≠ (u9 : Value).ownBlock ∧ k_ ≠ gb185 ∧ k_ ≠ gb195) (.slice A0_10 l0_10.length c0_10) l0_10) ∧ Aside0 (Kd.V (Kd.int .u8) 5 wc w.heap.size (fun k_ => ((P0_9_ k_ ∨ P0_10_ k_) ∨ w.heap.size ≤ k_) ∧ Triv v193 k_ ∧ some k_ ≠ (u9 : Value).ownBlock ∧ k_ ≠ gb185 ∧ k_ ≠ gb195) u196009 x196009_28) ∧ Aside0 (Kd.V (Kd.int .u8) 5 wc w.heap.size (fun k_ => ((P0_9_ k_ ∨ P0_10_ k_) ∨ w.heap.size ≤ k_) ∧ Triv v193 k_ ∧ some k_ ≠ (u9 : Value).ownBlock ∧ k_ ≠ gb185 ∧ k_ ≠ gb195) (.slice A0_10 l0_10.length c0_10) l0_10) ∧ Aside0 (wc.heap[gb185]? = some (.cells #[.int .u8 a0_0, .int .u16 a0_1, .bool false, .bool a0_3, .int .i64 a0_4, .int .u8 a0_5, .int .u8 a0_6, .int .u32 a0_7, .int .u32 a0_8, (.slice A0_9 l0_9.length c0_9), (.slice A0_10 l0_10.length c0_10)] 68 (0, 0))) ∧ Aside0 (wc.heap[gb195]? = some (.cells #[.int .u8 a0_0, .int .u16 a0_1, .bool false, .bool a0_3, .int .i64 a0_4, .int .u8 a0_5, .int .u8 a0_6, .int .u32 a0_7, .int .u32 a0_8, u196009, (.slice A0_10 l0_10.length c0_10)] 68 (0, 0))) ∧ Aside0 (Below w.heap.size w wc))
           case first =>
            have H := HC29.out
            clear HC29
            by_cases c34 : x10_2 > 0
            ·
             rw [if_pos c34] at H
             have c34b0 : decide (0 < x10_2) = true := decide_eq_true c34
             clear c34
             (first | rw [c34b0] | (simp only [i64_w, i32_w]; rw [c34b0]) | skip)
             have H' := Aside0.mk H
             clear H
             obtain ⟨Ao35, co35, eo35⟩ := Kd.R_slice HO_7.out
             subst eo35
             have hnb36 := NB195_185.out
             have hnc36 := NB185_195.out
             have hcz37_0 : w31.cell? ⟨gb195, 0, none⟩ = some (.int .u8 0) := (blk_cell BK195.out 0).trans rfl
             have hcz37_1 : w31.cell? ⟨gb195, 1, none⟩ = some (.int .u16 0) := (blk_cell BK195.out 1).trans rfl
             have hcz37_2 : w31.cell? ⟨gb195, 2, none⟩ = some (.bool false) := (blk_cell BK195.out 2).trans rfl
             have hcz37_3 : w31.cell? ⟨gb195, 3, none⟩ = some (.bool false) := (blk_cell BK195.out 3).trans rfl
             have hcz37_4 : w31.cell? ⟨gb195, 4, none⟩ = some (.int .i64 0) := (blk_cell BK195.out 4).trans rfl
             have hcz37_5 : w31.cell? ⟨gb195, 5, none⟩ = some (.int .u8 0) := (blk_cell BK195.out 5).trans rfl
             have hcz37_6 : w31.cell? ⟨gb195, 6, none⟩ = some (.int .u8 0) := (blk_cell BK195.out 6).trans rfl
             have hcz37_7 : w31.cell? ⟨gb195, 7, none⟩ = some (.int .u32 0) := (blk_cell BK195.out 7).trans rfl
             have hcz37_8 : w31.cell? ⟨gb195, 8, none⟩ = some (.int .u32 0) := (blk_cell BK195.out 8).trans rfl
             have hcz37_9 : w31.cell? ⟨gb195, 9, none⟩ = some (.slice none 0 0) := (blk_cell BK195.out 9).trans rfl
             have hcz37_10 : w31.cell? ⟨gb195, 10, none⟩ = some (.slice none 0 0) := (blk_cell BK195.out 10).trans rfl
             have hfz37_0 := blk_frozen BK195.out 0
             have hfz37_1 := blk_frozen BK195.out 1
             have hfz37_2 := blk_frozen BK195.out 2
             have hfz37_3 := blk_frozen BK195.out 3
             have hfz37_4 := blk_frozen BK195.out 4
             have hfz37_5 := blk_frozen BK195.out 5
             have hfz37_6 := blk_frozen BK195.out 6
             have hfz37_7 := blk_frozen BK195.out 7
             have hfz37_8 := blk_frozen BK195.out 8
             have hfz37_9 := blk_frozen BK195.out 9
             have hfz37_10 := blk_frozen BK195.out 10
             go_wp2
             go_meet
             case rel => exact ⟨_, (t191), (.slice Ao35 t191.length co35), H', ⟨by have := HJ4.out; have := HK2.out; first | omega | exact Nat.le_refl _⟩, ⟨by (with_reducible repeat (first | apply Kd.R_alloc | apply Kd.R_drewN | apply Kd.R_drew)); exact Kd.R_mono (Kd.R_far (p := ⟨gb195, 9, none⟩) (Kd.R_far (p := ⟨gb195, 10, none⟩) (Kd.R_far (p := ⟨gb195, 9, none⟩) (Kd.R_far (p := ⟨gb195, 8, none⟩) (Kd.R_far (p := ⟨gb195, 7, none⟩) (Kd.R_far (p := ⟨gb195, 6, none⟩) (Kd.R_far (p := ⟨gb195, 5, none⟩) (Kd.R_far (p := ⟨gb195, 4, none⟩) (Kd.R_far (p := ⟨gb195, 3, none⟩) (Kd.R_far (p := ⟨gb195, 2, none⟩) (Kd.R_far (p := ⟨gb195, 1, none⟩) (Kd.R_far (p := ⟨gb195, 0, none⟩) (Kd.R_types HO_7.out BK195.out (by decide)) (fun _ hk => hk.2) (.int .u8 a0_0)) (fun _ hk => hk.2) (.int .u16 a0_1)) (fun _ hk => hk.2) (.bool false)) (fun _ hk => hk.2) (.bool a0_3)) (fun _ hk => hk.2) (.int .i64 a0_4)) (fun _ hk => hk.2) (.int .u8 a0_5)) (fun _ hk => hk.2) (.int .u8 a0_6)) (fun _ hk => hk.2) (.int .u32 a0_7)) (fun _ hk => hk.2) (.int .u32 a0_8)) (fun _ hk => hk.2) (.slice A0_9 l0_9.length c0_9)) (fun _ hk => hk.2) (.slice A0_10 l0_10.length c0_10)) (fun _ hk => hk.2) (.slice Ao35 t191.length co35)) (fun _ hk => hk.1)⟩, ⟨by (with_reducible repeat (first | apply Kd.N_alloc | apply Kd.N_drewN | apply Kd.N_drew)); exact Kd.N_mono (Kd.N_far (p := ⟨gb195, 9, none⟩) (Kd.N_far (p := ⟨gb195, 10, none⟩) (Kd.N_far (p := ⟨gb195, 9, none⟩) (Kd.N_far (p := ⟨gb195, 8, none⟩) (Kd.N_far (p := ⟨gb195, 7, none⟩) (Kd.N_far (p := ⟨gb195, 6, none⟩) (Kd.N_far (p := ⟨gb195, 5, none⟩) (Kd.N_far (p := ⟨gb195, 4, none⟩) (Kd.N_far (p := ⟨gb195, 3, none⟩) (Kd.N_far (p := ⟨gb195, 2, none⟩) (Kd.N_far (p := ⟨gb195, 1, none⟩) (Kd.N_far (p := ⟨gb195, 0, none⟩) (Kd.N_mono HO_9.out (fun k_ hk => (⟨hk, hk.2⟩ : _ ∧ k_ ≠ gb195))) (fun _ hk => hk.2) (.int .u8 a0_0)) (fun _ hk => hk.2) (.int .u16 a0_1)) (fun _ hk => hk.2) (.bool false)) (fun _ hk => hk.2) (.bool a0_3)) (fun _ hk => hk.2) (.int .i64 a0_4)) (fun _ hk => hk.2) (.int .u8 a0_5)) (fun _ hk => hk.2) (.int .u8 a0_6)) (fun _ hk => hk.2) (.int .u32 a0_7)) (fun _ hk => hk.2) (.int .u32 a0_8)) (fun _ hk => hk.2) (.slice A0_9 l0_9.length c0_9)) (fun _ hk => hk.2) (.slice A0_10 l0_10.length c0_10)) (fun _ hk => hk.2) (.slice Ao35 t191.length co35)) (fun _ hk => ⟨hk.1.1.1, ⟨hk.1.1.2.1, ⟨hk.1.1.2.2, hk.1.2⟩⟩⟩)⟩, ⟨by (with_reducible repeat (first | apply Kd.V_alloc | apply Kd.V_drewN | apply Kd.V_drew)); exact Kd.V_mono (Kd.V_far (p := ⟨gb195, 9, none⟩) (Kd.V_far (p := ⟨gb195, 10, none⟩) (Kd.V_far (p := ⟨gb195, 9, none⟩) (Kd.V_far (p := ⟨gb195, 8, none⟩) (Kd.V_far (p := ⟨gb195, 7, none⟩) (Kd.V_far (p := ⟨gb195, 6, none⟩) (Kd.V_far (p := ⟨gb195, 5, none⟩) (Kd.V_far (p := ⟨gb195, 4, none⟩) (Kd.V_far (p := ⟨gb195, 3, none⟩) (Kd.V_far (p := ⟨gb195, 2, none⟩) (Kd.V_far (p := ⟨gb195, 1, none⟩) (Kd.V_far (p := ⟨gb195, 0, none⟩) (Kd.V_mono HO_186009.out (fun k_ hk => (⟨hk, hk.2⟩ : _ ∧ k_ ≠ gb195))) (fun _ hk => hk.2) (.int .u8 a0_0)) (fun _ hk => hk.2) (.int .u16 a0_1)) (fun _ hk => hk.2) (.bool false)) (fun _ hk => hk.2) (.bool a0_3)) (fun _ hk => hk.2) (.int .i64 a0_4)) (fun _ hk => hk.2) (.int .u8 a0_5)) (fun _ hk => hk.2) (.int .u8 a0_6)) (fun _ hk => hk.2) (.int .u32 a0_7)) (fun _ hk => hk.2) (.int .u32 a0_8)) (fun _ hk => hk.2) (.slice A0_9 l0_9.length c0_9)) (fun _ hk => hk.2) (.slice A0_10 l0_10.length c0_10)) (fun _ hk => hk.2) (.slice Ao35 t191.length co35)) (fun _ hk => ⟨hk.1.1.1, ⟨hk.1.1.2.1, ⟨hk.1.1.2.2.1, ⟨hk.1.1.2.2.2, hk.1.2⟩⟩⟩⟩)⟩, ⟨by (with_reducible repeat (first | apply Kd.V_alloc | apply Kd.V_drewN | apply Kd.V_drew)); exact Kd.V_mono (Kd.V_far (p := ⟨gb195, 9, none⟩) (Kd.V_far (p := ⟨gb195, 10, none⟩) (Kd.V_far (p := ⟨gb195, 9, none⟩) (Kd.V_far (p := ⟨gb195, 8, none⟩) (Kd.V_far (p := ⟨gb195, 7, none⟩) (Kd.V_far (p := ⟨gb195, 6, none⟩) (Kd.V_far (p := ⟨gb195, 5, none⟩) (Kd.V_far (p := ⟨gb195, 4, none⟩) (Kd.V_far (p := ⟨gb195, 3, none⟩) (Kd.V_far (p := ⟨gb195, 2, none⟩) (Kd.V_far (p := ⟨gb195, 1, none⟩) (Kd.V_far (p := ⟨gb195, 0, none⟩) (Kd.V_mono HO_186010.out (fun k_ hk => (⟨hk, hk.2⟩ : _ ∧ k_ ≠ gb195))) (fun _ hk => hk.2) (.int .u8 a0_0)) (fun _ hk => hk.2) (.int .u16 a0_1)) (fun _ hk => hk.2) (.bool false)) (fun _ hk => hk.2) (.bool a0_3)) (fun _ hk => hk.2) (.int .i64 a0_4)) (fun _ hk => hk.2) (.int .u8 a0_5)) (fun _ hk => hk.2) (.int .u8 a0_6)) (fun _ hk => hk.2) (.int .u32 a0_7)) (fun _ hk => hk.2) (.int .u32 a0_8)) (fun _ hk => hk.2) (.slice A0_9 l0_9.length c0_9)) (fun _ hk => hk.2) (.slice A0_10 l0_10.length c0_10)) (fun _ hk => hk.2) (.slice Ao35 t191.length co35)) (fun _ hk => ⟨hk.1.1.1, ⟨hk.1.1.2.1, ⟨hk.1.1.2.2.1, ⟨hk.1.1.2.2.2, hk.1.2⟩⟩⟩⟩)⟩, ⟨Kd.V_mono (Kd.R_V (by (with_reducible repeat (first | apply Kd.R_alloc | apply Kd.R_drewN | apply Kd.R_drew)); exact Kd.R_mono (ok' := fun k => w.heap.size ≤ k ∧ (some k ≠ u9.ownBlock ∧ (k ≠ gb185 ∧ k ≠ gb195))) (Kd.R_far (p := ⟨gb195, 9, none⟩) (Kd.R_far (p := ⟨gb195, 10, none⟩) (Kd.R_far (p := ⟨gb195, 9, none⟩) (Kd.R_far (p := ⟨gb195, 8, none⟩) (Kd.R_far (p := ⟨gb195, 7, none⟩) (Kd.R_far (p := ⟨gb195, 6, none⟩) (Kd.R_far (p := ⟨gb195, 5, none⟩) (Kd.R_far (p := ⟨gb195, 4, none⟩) (Kd.R_far (p := ⟨gb195, 3, none⟩) (Kd.R_far (p := ⟨gb195, 2, none⟩) (Kd.R_far (p := ⟨gb195, 1, none⟩) (Kd.R_far (p := ⟨gb195, 0, none⟩) (Kd.R_types (Kd.R_types (Kd.R_types (Kd.R_apart' HO_7.out (Kd.N_typed HO_9.out) (by decide)) BK185.out (by decide)) BK195.out (by decide)) BK195.out (by decide)) (fun _ hk => hk.2) (.int .u8 a0_0)) (fun _ hk => hk.2) (.int .u16 a0_1)) (fun _ hk => hk.2) (.bool false)) (fun _ hk => hk.2) (.bool a0_3)) (fun _ hk => hk.2) (.int .i64 a0_4)) (fun _ hk => hk.2) (.int .u8 a0_5)) (fun _ hk => hk.2) (.int .u8 a0_6)) (fun _ hk => hk.2) (.int .u32 a0_7)) (fun _ hk => hk.2) (.int .u32 a0_8)) (fun _ hk => hk.2) (.slice A0_9 l0_9.length c0_9)) (fun _ hk => hk.2) (.slice A0_10 l0_10.length c0_10)) (fun _ hk => hk.2) (.slice Ao35 t191.length co35)) (fun _ hk => ⟨hk.1.1.1.1, ⟨hk.1.1.1.2, ⟨hk.1.1.2, hk.1.2⟩⟩⟩))) (fun k_ hk => by first | exact ⟨(.inr (hk.1)), ⟨trivial, hk.2⟩⟩ | exact (.inr (hk)))⟩, ⟨by (with_reducible repeat (first | apply Kd.V_alloc | apply Kd.V_drewN | apply Kd.V_drew)); exact Kd.V_mono (Kd.V_far (p := ⟨gb195, 9, none⟩) (Kd.V_far (p := ⟨gb195, 10, none⟩) (Kd.V_far (p := ⟨gb195, 9, none⟩) (Kd.V_far (p := ⟨gb195, 8, none⟩) (Kd.V_far (p := ⟨gb195, 7, none⟩) (Kd.V_far (p := ⟨gb195, 6, none⟩) (Kd.V_far (p := ⟨gb195, 5, none⟩) (Kd.V_far (p := ⟨gb195, 4, none⟩) (Kd.V_far (p := ⟨gb195, 3, none⟩) (Kd.V_far (p := ⟨gb195, 2, none⟩) (Kd.V_far (p := ⟨gb195, 1, none⟩) (Kd.V_far (p := ⟨gb195, 0, none⟩) (Kd.V_mono HO_186010.out (fun k_ hk => (⟨hk, hk.2⟩ : _ ∧ k_ ≠ gb195))) (fun _ hk => hk.2) (.int .u8 a0_0)) (fun _ hk => hk.2) (.int .u16 a0_1)) (fun _ hk => hk.2) (.bool false)) (fun _ hk => hk.2) (.bool a0_3)) (fun _ hk => hk.2) (.int .i64 a0_4)) (fun _ hk => hk.2) (.int .u8 a0_5)) (fun _ hk => hk.2) (.int .u8 a0_6)) (fun _ hk => hk.2) (.int .u32 a0_7)) (fun _ hk => hk.2) (.int .u32 a0_8)) (fun _ hk => hk.2) (.slice A0_9 l0_9.length c0_9)) (fun _ hk => hk.2) (.slice A0_10 l0_10.length c0_10)) (fun _ hk => hk.2) (.slice Ao35 t191.length co35)) (fun _ hk => ⟨hk.1.1.1, ⟨hk.1.1.2.1, ⟨hk.1.1.2.2.1, ⟨hk.1.1.2.2.2, hk.1.2⟩⟩⟩⟩)⟩, ⟨by (with_reducible repeat (first | refine blk_drewN ?_ _ | refine blk_drew ?_ | refine blk_alloc ?_ _)); refine blk_far ?_ NB185_195.out _; (with_reducible repeat (first | refine blk_drewN ?_ _ | refine blk_drew ?_ | refine blk_alloc ?_ _)); refine blk_far ?_ NB185_195.out _; (with_reducible repeat (first | refine blk_drewN ?_ _ | refine blk_drew ?_ | refine blk_alloc ?_ _)); refine blk_far ?_ NB185_195.out _; (with_reducible repeat (first | refine blk_drewN ?_ _ | refine blk_drew ?_ | refine blk_alloc ?_ _)); refine blk_far ?_ NB185_195.out _; (with_reducible repeat (first | refine blk_drewN ?_ _ | refine blk_drew ?_ | refine blk_alloc ?_ _)); refine blk_far ?_ NB185_195.out _; (with_reducible repeat (first | refine blk_drewN ?_ _ | refine blk_drew ?_ | refine blk_alloc ?_ _)); refine blk_far ?_ NB185_195.out _; (with_reducible repeat (first | refine blk_drewN ?_ _ | refine blk_drew ?_ | refine blk_alloc ?_ _)); refine blk_far ?_ NB185_195.out _; (with_reducible repeat (first | refine blk_drewN ?_ _ | refine blk_drew ?_ | refine blk_alloc ?_ _)); refine blk_far ?_ NB185_195.out _; (with_reducible repeat (first | refine blk_drewN ?_ _ | refine blk_drew ?_ | refine blk_alloc ?_ _)); refine blk_far ?_ NB185_195.out _; (with_reducible repeat (first | refine blk_drewN ?_ _ | refine blk_drew ?_ | refine blk_alloc ?_ _)); refine blk_far ?_ NB185_195.out _; (with_reducible repeat (first | refine blk_drewN ?_ _ | refine blk_drew ?_ | refine blk_alloc ?_ _)); refine blk_far ?_ NB185_195.out _; (with_reducible repeat (first | refine blk_drewN ?_ _ | refine blk_drew ?_ | refine blk_alloc ?_ _)); refine blk_far ?_ NB185_195.out _; (with_reducible repeat (first | refine blk_drewN ?_ _ | refine blk_drew ?_ | refine blk_alloc ?_ _)); exact BK185.out⟩, ⟨by (with_reducible repeat (first | refine blk_drewN ?_ _ | refine blk_drew ?_ | refine blk_alloc ?_ _)); refine blk_put (cs := #[.int .u8 a0_0, .int .u16 a0_1, .bool false, .bool a0_3, .int .i64 a0_4, .int .u8 a0_5, .int .u8 a0_6, .int .u32 a0_7, .int .u32 a0_8, .slice A0_9 l0_9.length c0_9, .slice A0_10 l0_10.length c0_10]) ?_ 9 _ rfl; (with_reducible repeat (first | refine blk_drewN ?_ _ | refine blk_drew ?_ | refine blk_alloc ?_ _)); refine blk_put (cs := #[.int .u8 a0_0, .int .u16 a0_1, .bool false, .bool a0_3, .int .i64 a0_4, .int .u8 a0_5, .int .u8 a0_6, .int .u32 a0_7, .int .u32 a0_8, .slice A0_9 l0_9.length c0_9, .slice none 0 0]) ?_ 10 _ rfl; (with_reducible repeat (first | refine blk_drewN ?_ _ | refine blk_drew ?_ | refine blk_alloc ?_ _)); refine blk_put (cs := #[.int .u8 a0_0, .int .u16 a0_1, .bool false, .bool a0_3, .int .i64 a0_4, .int .u8 a0_5, .int .u8 a0_6, .int .u32 a0_7, .int .u32 a0_8, .slice none 0 0, .slice none 0 0]) ?_ 9 _ rfl; (with_reducible repeat (first | refine blk_drewN ?_ _ | refine blk_drew ?_ | refine blk_alloc ?_ _)); refine blk_put (cs := #[.int .u8 a0_0, .int .u16 a0_1, .bool false, .bool a0_3, .int .i64 a0_4, .int .u8 a0_5, .int .u8 a0_6, .int .u32 a0_7, .int .u32 0, .slice none 0 0, .slice none 0 0]) ?_ 8 _ rfl; (with_reducible repeat (first | refine blk_drewN ?_ _ | refine blk_drew ?_ | refine blk_alloc ?_ _)); refine blk_put (cs := #[.int .u8 a0_0, .int .u16 a0_1, .bool false, .bool a0_3, .int .i64 a0_4, .int .u8 a0_5, .int .u8 a0_6, .int .u32 0, .int .u32 0, .slice none 0 0, .slice none 0 0]) ?_ 7 _ rfl; (with_reducible repeat (first | refine blk_drewN ?_ _ | refine blk_drew ?_ | refine blk_alloc ?_ _)); refine blk_put (cs := #[.int .u8 a0_0, .int .u16 a0_1, .bool false, .bool a0_3, .int .i64 a0_4, .int .u8 a0_5, .int .u8 0, .int .u32 0, .int .u32 0, .slice none 0 0, .slice none 0 0]) ?_ 6 _ rfl; (with_reducible repeat (first | refine blk_drewN ?_ _ | refine blk_drew ?_ | refine blk_alloc ?_ _)); refine blk_put (cs := #[.int .u8 a0_0, .int .u16 a0_1, .bool false, .bool a0_3, .int .i64 a0_4, .int .u8 0, .int .u8 0, .int .u32 0, .int .u32 0, .slice none 0 0, .slice none 0 0]) ?_ 5 _ rfl; (with_reducible repeat (first | refine blk_drewN ?_ _ | refine blk_drew ?_ | refine blk_alloc ?_ _)); refine blk_put (cs := #[.int .u8 a0_0, .int .u16 a0_1, .bool false, .bool a0_3, .int .i64 0, .int .u8 0, .int .u8 0, .int .u32 0, .int .u32 0, .slice none 0 0, .slice none 0 0]) ?_ 4 _ rfl; (with_reducible repeat (first | refine blk_drewN ?_ _ | refine blk_drew ?_ | refine blk_alloc ?_ _)); refine blk_put (cs := #[.int .u8 a0_0, .int .u16 a0_1, .bool false, .bool false, .int .i64 0, .int .u8 0, .int .u8 0, .int .u32 0, .int .u32 0, .slice none 0 0, .slice none 0 0]) ?_ 3 _ rfl; (with_reducible repeat (first | refine blk_drewN ?_ _ | refine blk_drew ?_ | refine blk_alloc ?_ _)); refine blk_put (cs := #[.int .u8 a0_0, .int .u16 a0_1, .bool false, .bool false, .int .i64 0, .int .u8 0, .int .u8 0, .int .u32 0, .int .u32 0, .slice none 0 0, .slice none 0 0]) ?_ 2 _ rfl; (with_reducible repeat (first | refine blk_drewN ?_ _ | refine blk_drew ?_ | refine blk_alloc ?_ _)); refine blk_put (cs := #[.int .u8 a0_0, .int .u16 0, .bool false, .bool false, .int .i64 0, .int .u8 0, .int .u8 0, .int .u32 0, .int .u32 0, .slice none 0 0, .slice none 0 0]) ?_ 1 _ rfl; (with_reducible repeat (first | refine blk_drewN ?_ _ | refine blk_drew ?_ | refine blk_alloc ?_ _)); refine blk_put (cs := #[.int .u8 0, .int .u16 0, .bool false, .bool false, .int .i64 0, .int .u8 0, .int .u8 0, .int .u32 0, .int .u32 0, .slice none 0 0, .slice none 0 0]) ?_ 0 _ rfl; (with_reducible repeat (first | refine blk_drewN ?_ _ | refine blk_drew ?_ | refine blk_alloc ?_ _)); exact BK195.out⟩, ⟨by repeat (first | (with_reducible first | exact HB.out | apply below_alloc | apply pw_below_drewN | apply below_drew1 | refine below_set ?_ GE185.out | refine below_set ?_ GE195.out) | exact HB.out)⟩⟩
            ·
             rw [if_neg c34] at H
             have c34b0 : decide (0 < x10_2) = false := decide_eq_false c34
             clear c34
             (first | rw [c34b0] | (simp only [i64_w, i32_w]; rw [c34b0]) | skip)
             have H' := Aside0.mk H
             clear H
             go_wp2
             go_meet
             case rel => exact ⟨_, (l0_9), (.slice A0_9 l0_9.length c0_9), H', ⟨by have := HJ4.out; have := HK2.out; first | omega | exact Nat.le_refl _⟩, ⟨by (with_reducible repeat (first | apply Kd.R_alloc | apply Kd.R_drewN | apply Kd.R_drew)); exact Kd.R_mono (Kd.R_far (p := ⟨gb195, 10, none⟩) (Kd.R_far (p := ⟨gb195, 9, none⟩) (Kd.R_far (p := ⟨gb195, 8, none⟩) (Kd.R_far (p := ⟨gb195, 7, none⟩) (Kd.R_far (p := ⟨gb195, 6, none⟩) (Kd.R_far (p := ⟨gb195, 5, none⟩) (Kd.R_far (p := ⟨gb195, 4, none⟩) (Kd.R_far (p := ⟨gb195, 3, none⟩) (Kd.R_far (p := ⟨gb195, 2, none⟩) (Kd.R_far (p := ⟨gb195, 1, none⟩) (Kd.R_far (p := ⟨gb195, 0, none⟩) (Kd.R_types HO_7.out BK195.out (by decide)) (fun _ hk => hk.2) (.int .u8 a0_0)) (fun _ hk => hk.2) (.int .u16 a0_1)) (fun _ hk => hk.2) (.bool false)) (fun _ hk => hk.2) (.bool a0_3)) (fun _ hk => hk.2) (.int .i64 a0_4)) (fun _ hk => hk.2) (.int .u8 a0_5)) (fun _ hk => hk.2) (.int .u8 a0_6)) (fun _ hk => hk.2) (.int .u32 a0_7)) (fun _ hk => hk.2) (.int .u32 a0_8)) (fun _ hk => hk.2) (.slice A0_9 l0_9.length c0_9)) (fun _ hk => hk.2) (.slice A0_10 l0_10.length c0_10)) (fun _ hk => hk.1)⟩, ⟨by (with_reducible repeat (first | apply Kd.N_alloc | apply Kd.N_drewN | apply Kd.N_drew)); exact Kd.N_mono (Kd.N_far (p := ⟨gb195, 10, none⟩) (Kd.N_far (p := ⟨gb195, 9, none⟩) (Kd.N_far (p := ⟨gb195, 8, none⟩) (Kd.N_far (p := ⟨gb195, 7, none⟩) (Kd.N_far (p := ⟨gb195, 6, none⟩) (Kd.N_far (p := ⟨gb195, 5, none⟩) (Kd.N_far (p := ⟨gb195, 4, none⟩) (Kd.N_far (p := ⟨gb195, 3, none⟩) (Kd.N_far (p := ⟨gb195, 2, none⟩) (Kd.N_far (p := ⟨gb195, 1, none⟩) (Kd.N_far (p := ⟨gb195, 0, none⟩) (Kd.N_mono HO_9.out (fun k_ hk => (⟨hk, hk.2⟩ : _ ∧ k_ ≠ gb195))) (fun _ hk => hk.2) (.int .u8 a0_0)) (fun _ hk => hk.2) (.int .u16 a0_1)) (fun _ hk => hk.2) (.bool false)) (fun _ hk => hk.2) (.bool a0_3)) (fun _ hk => hk.2) (.int .i64 a0_4)) (fun _ hk => hk.2) (.int .u8 a0_5)) (fun _ hk => hk.2) (.int .u8 a0_6)) (fun _ hk => hk.2) (.int .u32 a0_7)) (fun _ hk => hk.2) (.int .u32 a0_8)) (fun _ hk => hk.2) (.slice A0_9 l0_9.length c0_9)) (fun _ hk => hk.2) (.slice A0_10 l0_10.length c0_10)) (fun _ hk => ⟨hk.1.1.1, ⟨hk.1.1.2.1, ⟨hk.1.1.2.2, hk.1.2⟩⟩⟩)⟩, ⟨by (with_reducible repeat (first | apply Kd.V_alloc | apply Kd.V_drewN | apply Kd.V_drew)); exact Kd.V_mono (Kd.V_far (p := ⟨gb195, 10, none⟩) (Kd.V_far (p := ⟨gb195, 9, none⟩) (Kd.V_far (p := ⟨gb195, 8, none⟩) (Kd.V_far (p := ⟨gb195, 7, none⟩) (Kd.V_far (p := ⟨gb195, 6, none⟩) (Kd.V_far (p := ⟨gb195, 5, none⟩) (Kd.V_far (p := ⟨gb195, 4, none⟩) (Kd.V_far (p := ⟨gb195, 3, none⟩) (Kd.V_far (p := ⟨gb195, 2, none⟩) (Kd.V_far (p := ⟨gb195, 1, none⟩) (Kd.V_far (p := ⟨gb195, 0, none⟩) (Kd.V_mono HO_186009.out (fun k_ hk => (⟨hk, hk.2⟩ : _ ∧ k_ ≠ gb195))) (fun _ hk => hk.2) (.int .u8 a0_0)) (fun _ hk => hk.2) (.int .u16 a0_1)) (fun _ hk => hk.2) (.bool false)) (fun _ hk => hk.2) (.bool a0_3)) (fun _ hk => hk.2) (.int .i64 a0_4)) (fun _ hk => hk.2) (.int .u8 a0_5)) (fun _ hk => hk.2) (.int .u8 a0_6)) (fun _ hk => hk.2) (.int .u32 a0_7)) (fun _ hk => hk.2) (.int .u32 a0_8)) (fun _ hk => hk.2) (.slice A0_9 l0_9.length c0_9)) (fun _ hk => hk.2) (.slice A0_10 l0_10.length c0_10)) (fun _ hk => ⟨hk.1.1.1, ⟨hk.1.1.2.1, ⟨hk.1.1.2.2.1, ⟨hk.1.1.2.2.2, hk.1.2⟩⟩⟩⟩)⟩, ⟨by (with_reducible repeat (first | apply Kd.V_alloc | apply Kd.V_drewN | apply Kd.V_drew)); exact Kd.V_mono (Kd.V_far (p := ⟨gb195, 10, none⟩) (Kd.V_far (p := ⟨gb195, 9, none⟩) (Kd.V_far (p := ⟨gb195, 8, none⟩) (Kd.V_far (p := ⟨gb195, 7, none⟩) (Kd.V_far (p := ⟨gb195, 6, none⟩) (Kd.V_far (p := ⟨gb195, 5, none⟩) (Kd.V_far (p := ⟨gb195, 4, none⟩) (Kd.V_far (p := ⟨gb195, 3, none⟩) (Kd.V_far (p := ⟨gb195, 2, none⟩) (Kd.V_far (p := ⟨gb195, 1, none⟩) (Kd.V_far (p := ⟨gb195, 0, none⟩) (Kd.V_mono HO_186010.out (fun k_ hk => (⟨hk, hk.2⟩ : _ ∧ k_ ≠ gb195))) (fun _ hk => hk.2) (.int .u8 a0_0)) (fun _ hk => hk.2) (.int .u16 a0_1)) (fun _ hk => hk.2) (.bool false)) (fun _ hk => hk.2) (.bool a0_3)) (fun _ hk => hk.2) (.int .i64 a0_4)) (fun _ hk => hk.2) (.int .u8 a0_5)) (fun _ hk => hk.2) (.int .u8 a0_6)) (fun _ hk => hk.2) (.int .u32 a0_7)) (fun _ hk => hk.2) (.int .u32 a0_8)) (fun _ hk => hk.2) (.slice A0_9 l0_9.length c0_9)) (fun _ hk => hk.2) (.slice A0_10 l0_10.length c0_10)) (fun _ hk => ⟨hk.1.1.1, ⟨hk.1.1.2.1, ⟨hk.1.1.2.2.1, ⟨hk.1.1.2.2.2, hk.1.2⟩⟩⟩⟩)⟩, ⟨by (with_reducible repeat (first | apply Kd.V_alloc | apply Kd.V_drewN | apply Kd.V_drew)); exact Kd.V_mono (Kd.V_far (p := ⟨gb195, 10, none⟩) (Kd.V_far (p := ⟨gb195, 9, none⟩) (Kd.V_far (p := ⟨gb195, 8, none⟩) (Kd.V_far (p := ⟨gb195, 7, none⟩) (Kd.V_far (p := ⟨gb195, 6, none⟩) (Kd.V_far (p := ⟨gb195, 5, none⟩) (Kd.V_far (p := ⟨gb195, 4, none⟩) (Kd.V_far (p := ⟨gb195, 3, none⟩) (Kd.V_far (p := ⟨gb195, 2, none⟩) (Kd.V_far (p := ⟨gb195, 1, none⟩) (Kd.V_far (p := ⟨gb195, 0, none⟩) (Kd.V_mono HO_186009.out (fun k_ hk => (⟨hk, hk.2⟩ : _ ∧ k_ ≠ gb195))) (fun _ hk => hk.2) (.int .u8 a0_0)) (fun _ hk => hk.2) (.int .u16 a0_1)) (fun _ hk => hk.2) (.bool false)) (fun _ hk => hk.2) (.bool a0_3)) (fun _ hk => hk.2) (.int .i64 a0_4)) (fun _ hk => hk.2) (.int .u8 a0_5)) (fun _ hk => hk.2) (.int .u8 a0_6)) (fun _ hk => hk.2) (.int .u32 a0_7)) (fun _ hk => hk.2) (.int .u32 a0_8)) (fun _ hk => hk.2) (.slice A0_9 l0_9.length c0_9)) (fun _ hk => hk.2) (.slice A0_10 l0_10.length c0_10)) (fun _ hk => ⟨hk.1.1.1, ⟨hk.1.1.2.1, ⟨hk.1.1.2.2.1, ⟨hk.1.1.2.2.2, hk.1.2⟩⟩⟩⟩)⟩, ⟨by (with_reducible repeat (first | apply Kd.V_alloc | apply Kd.V_drewN | apply Kd.V_drew)); exact Kd.V_mono (Kd.V_far (p := ⟨gb195, 10, none⟩) (Kd.V_far (p := ⟨gb195, 9, none⟩) (Kd.V_far (p := ⟨gb195, 8, none⟩) (Kd.V_far (p := ⟨gb195, 7, none⟩) (Kd.V_far (p := ⟨gb195, 6, none⟩) (Kd.V_far (p := ⟨gb195, 5, none⟩) (Kd.V_far (p := ⟨gb195, 4, none⟩) (Kd.V_far (p := ⟨gb195, 3, none⟩) (Kd.V_far (p := ⟨gb195, 2, none⟩) (Kd.V_far (p := ⟨gb195, 1, none⟩) (Kd.V_far (p := ⟨gb195, 0, none⟩) (Kd.V_mono HO_186010.out (fun k_ hk => (⟨hk, hk.2⟩ : _ ∧ k_ ≠ gb195))) (fun _ hk => hk.2) (.int .u8 a0_0)) (fun _ hk => hk.2) (.int .u16 a0_1)) (fun _ hk => hk.2) (.bool false)) (fun _ hk => hk.2) (.bool a0_3)) (fun _ hk => hk.2) (.int .i64 a0_4)) (fun _ hk => hk.2) (.int .u8 a0_5)) (fun _ hk => hk.2) (.int .u8 a0_6)) (fun _ hk => hk.2) (.int .u32 a0_7)) (fun _ hk => hk.2) (.int .u32 a0_8)) (fun _ hk => hk.2) (.slice A0_9 l0_9.length c0_9)) (fun _ hk => hk.2) (.slice A0_10 l0_10.length c0_10)) (fun _ hk => ⟨hk.1.1.1, ⟨hk.1.1.2.1, ⟨hk.1.1.2.2.1, ⟨hk.1.1.2.2.2, hk.1.2⟩⟩⟩⟩)⟩, ⟨by (with_reducible repeat (first | refine blk_drewN ?_ _ | refine blk_drew ?_ | refine blk_alloc ?_ _)); refine blk_far ?_ NB185_195.out _; (with_reducible repeat (first | refine blk_drewN ?_ _ | refine blk_drew ?_ | refine blk_alloc ?_ _)); refine blk_far ?_ NB185_195.out _; (with_reducible repeat (first | refine blk_drewN ?_ _ | refine blk_drew ?_ | refine blk_alloc ?_ _)); refine blk_far ?_ NB185_195.out _; (with_reducible repeat (first | refine blk_drewN ?_ _ | refine blk_drew ?_ | refine blk_alloc ?_ _)); refine blk_far ?_ NB185_195.out _; (with_reducible repeat (first | refine blk_drewN ?_ _ | refine blk_drew ?_ | refine blk_alloc ?_ _)); refine blk_far ?_ NB185_195.out _; (with_reducible repeat (first | refine blk_drewN ?_ _ | refine blk_drew ?_ | refine blk_alloc ?_ _)); refine blk_far ?_ NB185_195.out _; (with_reducible repeat (first | refine blk_drewN ?_ _ | refine blk_drew ?_ | refine blk_alloc ?_ _)); refine blk_far ?_ NB185_195.out _; (with_reducible repeat (first | refine blk_drewN ?_ _ | refine blk_drew ?_ | refine blk_alloc ?_ _)); refine blk_far ?_ NB185_195.out _; (with_reducible repeat (first | refine blk_drewN ?_ _ | refine blk_drew ?_ | refine blk_alloc ?_ _)); refine blk_far ?_ NB185_195.out _; (with_reducible repeat (first | refine blk_drewN ?_ _ | refine blk_drew ?_ | refine blk_alloc ?_ _)); refine blk_far ?_ NB185_195.out _; (with_reducible repeat (first | refine blk_drewN ?_ _ | refine blk_drew ?_ | refine blk_alloc ?_ _)); refine blk_far ?_ NB185_195.out _; (with_reducible repeat (first | refine blk_drewN ?_ _ | refine blk_drew ?_ | refine blk_alloc ?_ _)); exact BK185.out⟩, ⟨by (with_reducible repeat (first | refine blk_drewN ?_ _ | refine blk_drew ?_ | refine blk_alloc ?_ _)); refine blk_put (cs := #[.int .u8 a0_0, .int .u16 a0_1, .bool false, .bool a0_3, .int .i64 a0_4, .int .u8 a0_5, .int .u8 a0_6, .int .u32 a0_7, .int .u32 a0_8, .slice A0_9 l0_9.length c0_9, .slice none 0 0]) ?_ 10 _ rfl; (with_reducible repeat (first | refine blk_drewN ?_ _ | refine blk_drew ?_ | refine blk_alloc ?_ _)); refine blk_put (cs := #[.int .u8 a0_0, .int .u16 a0_1, .bool false, .bool a0_3, .int .i64 a0_4, .int .u8 a0_5, .int .u8 a0_6, .int .u32 a0_7, .int .u32 a0_8, .slice none 0 0, .slice none 0 0]) ?_ 9 _ rfl; (with_reducible repeat (first | refine blk_drewN ?_ _ | refine blk_drew ?_ | refine blk_alloc ?_ _)); refine blk_put (cs := #[.int .u8 a0_0, .int .u16 a0_1, .bool false, .bool a0_3, .int .i64 a0_4, .int .u8 a0_5, .int .u8 a0_6, .int .u32 a0_7, .int .u32 0, .slice none 0 0, .slice none 0 0]) ?_ 8 _ rfl; (with_reducible repeat (first | refine blk_drewN ?_ _ | refine blk_drew ?_ | refine blk_alloc ?_ _)); refine blk_put (cs := #[.int .u8 a0_0, .int .u16 a0_1, .bool false, .bool a0_3, .int .i64 a0_4, .int .u8 a0_5, .int .u8 a0_6, .int .u32 0, .int .u32 0, .slice none 0 0, .slice none 0 0]) ?_ 7 _ rfl; (with_reducible repeat (first | refine blk_drewN ?_ _ | refine blk_drew ?_ | refine blk_alloc ?_ _)); refine blk_put (cs := #[.int .u8 a0_0, .int .u16 a0_1, .bool false, .bool a0_3, .int .i64 a0_4, .int .u8 a0_5, .int .u8 0, .int .u32 0, .int .u32 0, .slice none 0 0, .slice none 0 0]) ?_ 6 _ rfl; (with_reducible repeat (first | refine blk_drewN ?_ _ | refine blk_drew ?_ | refine blk_alloc ?_ _)); refine blk_put (cs := #[.int .u8 a0_0, .int .u16 a0_1, .bool false, .bool a0_3, .int .i64 a0_4, .int .u8 0, .int .u8 0, .int .u32 0, .int .u32 0, .slice none 0 0, .slice none 0 0]) ?_ 5 _ rfl; (with_reducible repeat (first | refine blk_drewN ?_ _ | refine blk_drew ?_ | refine blk_alloc ?_ _)); refine blk_put (cs := #[.int .u8 a0_0, .int .u16 a0_1, .bool false, .bool a0_3, .int .i64 0, .int .u8 0, .int .u8 0, .int .u32 0, .int .u32 0, .slice none 0 0, .slice none 0 0]) ?_ 4 _ rfl; (with_reducible repeat (first | refine blk_drewN ?_ _ | refine blk_drew ?_ | refine blk_alloc ?_ _)); refine blk_put (cs := #[.int .u8 a0_0, .int .u16 a0_1, .bool false, .bool false, .int .i64 0, .int .u8 0, .int .u8 0, .int .u32 0, .int .u32 0, .slice none 0 0, .slice none 0 0]) ?_ 3 _ rfl; (with_reducible repeat (first | refine blk_drewN ?_ _ | refine blk_drew ?_ | refine blk_alloc ?_ _)); refine blk_put (cs := #[.int .u8 a0_0, .int .u16 a0_1, .bool false, .bool false, .int .i64 0, .int .u8 0, .int .u8 0, .int .u32 0, .int .u32 0, .slice none 0 0, .slice none 0 0]) ?_ 2 _ rfl; (with_reducible repeat (first | refine blk_drewN ?_ _ | refine blk_drew ?_ | refine blk_alloc ?_ _)); refine blk_put (cs := #[.int .u8 a0_0, .int .u16 0, .bool false, .bool false, .int .i64 0, .int .u8 0, .int .u8 0, .int .u32 0, .int .u32 0, .slice none 0 0, .slice none 0 0]) ?_ 1 _ rfl; (with_reducible repeat (first | refine blk_drewN ?_ _ | refine blk_drew ?_ | refine blk_alloc ?_ _)); refine blk_put (cs := #[.int .u8 0, .int .u16 0, .bool false, .bool false, .int .i64 0, .int .u8 0, .int .u8 0, .int .u32 0, .int .u32 0, .slice none 0 0, .slice none 0 0]) ?_ 0 _ rfl; (with_reducible repeat (first | refine blk_drewN ?_ _ | refine blk_drew ?_ | refine blk_alloc ?_ _)); exact BK195.out⟩, ⟨by repeat (first | (with_reducible first | exact HB.out | apply below_alloc | apply pw_below_drewN | apply below_drew1 | refine below_set ?_ GE185.out | refine below_set ?_ GE195.out) | exact HB.out)⟩⟩
           case rest =>
            clear HC29
            try clear c1
            try clear c2
            try clear p2
            try clear c3
            try clear c4
            try clear c4b0
            try clear c4b1
            try clear c7
            try clear c9
            try clear c9b0
            try clear c10
            try clear c12
            try clear c12b0
            try clear c18
            try clear c23
            try clear c23b0
            try clear c23b1
            try clear c28
            try clear c28b0
            try clear c32
            try clear c34
            try clear c34b0
            try clear c36
            try clear c37
            try clear hcz13_0
            try clear hcz13_1
            try clear hcz13_10
            try clear hcz13_2
            try clear hcz13_3
            try clear hcz13_4
            try clear hcz13_5
            try clear hcz13_6
            try clear hcz13_7
            try clear hcz13_8
            try clear hcz13_9
            try clear hcz15_0
            try clear hcz15_1
            try clear hcz15_10
            try clear hcz15_2
            try clear hcz15_3
            try clear hcz15_4
            try clear hcz15_5
            try clear hcz15_6
            try clear hcz15_7
            try clear hcz15_8
            try clear hcz15_9
            try clear hcz19_0
            try clear hcz19_1
            try clear hcz19_10
            try clear hcz19_2
            try clear hcz19_3
            try clear hcz19_4
            try clear hcz19_5
            try clear hcz19_6
            try clear hcz19_7
            try clear hcz19_8
            try clear hcz19_9
            try clear hcz21_0
            try clear hcz21_1
            try clear hcz21_10
            try clear hcz21_2
            try clear hcz21_3
            try clear hcz21_4
            try clear hcz21_5
            try clear hcz21_6
            try clear hcz21_7
            try clear hcz21_8
            try clear hcz21_9
            try clear hcz24_0
            try clear hcz24_1
            try clear hcz24_10
            try clear hcz24_2
            try clear hcz24_3
            try clear hcz24_4
            try clear hcz24_5
            try clear hcz24_6
            try clear hcz24_7
            try clear hcz24_8
            try clear hcz24_9
            try clear hcz26_0
            try clear hcz26_1
            try clear hcz26_10
            try clear hcz26_2
            try clear hcz26_3
            try clear hcz26_4
            try clear hcz26_5
            try clear hcz26_6
            try clear hcz26_7
            try clear hcz26_8
            try clear hcz26_9
            try clear hcz30_0
            try clear hcz30_1
            try clear hcz30_10
            try clear hcz30_2
            try clear hcz30_3
            try clear hcz30_4
            try clear hcz30_5
            try clear hcz30_6
            try clear hcz30_7
            try clear hcz30_8
            try clear hcz30_9
            try clear hcz33_0
            try clear hcz33_1
            try clear hcz33_10
            try clear hcz33_2
            try clear hcz33_3
            try clear hcz33_4
            try clear hcz33_5
            try clear hcz33_6
            try clear hcz33_7
            try clear hcz33_8
            try clear hcz33_9
            try clear hcz37_0
            try clear hcz37_1
            try clear hcz37_10
            try clear hcz37_2
            try clear hcz37_3
            try clear hcz37_4
            try clear hcz37_5
            try clear hcz37_6
            try clear hcz37_7
            try clear hcz37_8
            try clear hcz37_9
            try clear hcz7_0
            try clear hcz7_1
            try clear hcz7_10
            try clear hcz7_2
            try clear hcz7_3
            try clear hcz7_4
            try clear hcz7_5
            try clear hcz7_6
            try clear hcz7_7
            try clear hcz7_8
            try clear hcz7_9
            try clear hfz13_0
            try clear hfz13_1
            try clear hfz13_10
            try clear hfz13_2
            try clear hfz13_3
            try clear hfz13_4
            try clear hfz13_5
            try clear hfz13_6
            try clear hfz13_7
            try clear hfz13_8
            try clear hfz13_9
            try clear hfz15_0
            try clear hfz15_1
            try clear hfz15_10
            try clear hfz15_2
            try clear hfz15_3
            try clear hfz15_4
            try clear hfz15_5
            try clear hfz15_6
            try clear hfz15_7
            try clear hfz15_8
            try clear hfz15_9
            try clear hfz19_0
            try clear hfz19_1
            try clear hfz19_10
            try clear hfz19_2
            try clear hfz19_3
            try clear hfz19_4
            try clear hfz19_5
            try clear hfz19_6
            try clear hfz19_7
            try clear hfz19_8
            try clear hfz19_9
            try clear hfz21_0
            try clear hfz21_1
            try clear hfz21_10
            try clear hfz21_2
            try clear hfz21_3
            try clear hfz21_4
            try clear hfz21_5
            try clear hfz21_6
            try clear hfz21_7
            try clear hfz21_8
            try clear hfz21_9
            try clear hfz24_0
            try clear hfz24_1
            try clear hfz24_10
            try clear hfz24_2
            try clear hfz24_3
            try clear hfz24_4
            try clear hfz24_5
            try clear hfz24_6
            try clear hfz24_7
            try clear hfz24_8
            try clear hfz24_9
            try clear hfz26_0
            try clear hfz26_1
            try clear hfz26_10
            try clear hfz26_2
            try clear hfz26_3
            try clear hfz26_4
            try clear hfz26_5
            try clear hfz26_6
            try clear hfz26_7
            try clear hfz26_8
            try clear hfz26_9
            try clear hfz30_0
            try clear hfz30_1
            try clear hfz30_10
            try clear hfz30_2
            try clear hfz30_3
            try clear hfz30_4
            try clear hfz30_5
            try clear hfz30_6
            try clear hfz30_7
            try clear hfz30_8
            try clear hfz30_9
            try clear hfz33_0
            try clear hfz33_1
            try clear hfz33_10
            try clear hfz33_2
            try clear hfz33_3
            try clear hfz33_4
            try clear hfz33_5
            try clear hfz33_6
            try clear hfz33_7
            try clear hfz33_8
            try clear hfz33_9
            try clear hfz37_0
            try clear hfz37_1
            try clear hfz37_10
            try clear hfz37_2
            try clear hfz37_3
            try clear hfz37_4
            try clear hfz37_5
            try clear hfz37_6
            try clear hfz37_7
            try clear hfz37_8
            try clear hfz37_9
            try clear hfz7_0
            try clear hfz7_1
            try clear hfz7_10
            try clear hfz7_2
            try clear hfz7_3
            try clear hfz7_4
            try clear hfz7_5
            try clear hfz7_6
            try clear hfz7_7
            try clear hfz7_8
            try clear hfz7_9
            try clear p2
            obtain ⟨kq, x196009_28, u196009, HA, HJ28, HO_7, HO_9, HO_186009, HO_186010, HO_196009, HO_196010, BK185, BK195, HB⟩ := hcut
            cases kq with
            | zero => exact absurd HA.out (by simp [towroperef11_Split.j2])
            | succ kj28 =>
             have H := HA.out
             clear HA
             simp only [towroperef11_Split.j2] at H
             by_cases c38 : (wrap64 (a0_4 + (wrap64 (Int.tdiv x10_2 8)))) > 8191
             ·
              rw [if_pos c38] at H
              have c38b0 : decide (8191 < (wrap64 (a0_4 + (wrap64 (Int.tdiv x10_2 8))))) = true := decide_eq_true c38
              clear c38
              simp only [Option.some.injEq, Prod.mk.injEq] at H
              obtain ⟨rfl, rfl⟩ := H
              have hnb39 := NB195_185.out
              have hnc39 := NB185_195.out
              have hcz40_0 : wc.cell? ⟨gb195, 0, none⟩ = some (.int .u8 a0_0) := (blk_cell BK195.out 0).trans rfl
              have hcz40_1 : wc.cell? ⟨gb195, 1, none⟩ = some (.int .u16 a0_1) := (blk_cell BK195.out 1).trans rfl
              have hcz40_2 : wc.cell? ⟨gb195, 2, none⟩ = some (.bool false) := (blk_cell BK195.out 2).trans rfl
              have hcz40_3 : wc.cell? ⟨gb195, 3, none⟩ = some (.bool a0_3) := (blk_cell BK195.out 3).trans rfl
              have hcz40_4 : wc.cell? ⟨gb195, 4, none⟩ = some (.int .i64 a0_4) := (blk_cell BK195.out 4).trans rfl
              have hcz40_5 : wc.cell? ⟨gb195, 5, none⟩ = some (.int .u8 a0_5) := (blk_cell BK195.out 5).trans rfl
              have hcz40_6 : wc.cell? ⟨gb195, 6, none⟩ = some (.int .u8 a0_6) := (blk_cell BK195.out 6).trans rfl
              have hcz40_7 : wc.cell? ⟨gb195, 7, none⟩ = some (.int .u32 a0_7) := (blk_cell BK195.out 7).trans rfl
              have hcz40_8 : wc.cell? ⟨gb195, 8, none⟩ = some (.int .u32 a0_8) := (blk_cell BK195.out 8).trans rfl
              have hcz40_9 : wc.cell? ⟨gb195, 9, none⟩ = some (u196009) := (blk_cell BK195.out 9).trans rfl
              have hcz40_10 : wc.cell? ⟨gb195, 10, none⟩ = some (.slice A0_10 l0_10.length c0_10) := (blk_cell BK195.out 10).trans rfl
              have hfz40_0 := blk_frozen BK195.out 0
              have hfz40_1 := blk_frozen BK195.out 1
              have hfz40_2 := blk_frozen BK195.out 2
              have hfz40_3 := blk_frozen BK195.out 3
              have hfz40_4 := blk_frozen BK195.out 4
              have hfz40_5 := blk_frozen BK195.out 5
              have hfz40_6 := blk_frozen BK195.out 6
              have hfz40_7 := blk_frozen BK195.out 7
              have hfz40_8 := blk_frozen BK195.out 8
              have hfz40_9 := blk_frozen BK195.out 9
              have hfz40_10 := blk_frozen BK195.out 10
              obtain ⟨Ao41, co41, eo41⟩ := Kd.V_slice HO_196009.out
              subst eo41
              have hcz42_0 : wc.cell? ⟨gb185, 0, none⟩ = some (.int .u8 a0_0) := (blk_cell BK185.out 0).trans rfl
              have hcz42_1 : wc.cell? ⟨gb185, 1, none⟩ = some (.int .u16 a0_1) := (blk_cell BK185.out 1).trans rfl
              have hcz42_2 : wc.cell? ⟨gb185, 2, none⟩ = some (.bool false) := (blk_cell BK185.out 2).trans rfl
              have hcz42_3 : wc.cell? ⟨gb185, 3, none⟩ = some (.bool a0_3) := (blk_cell BK185.out 3).trans rfl
              have hcz42_4 : wc.cell? ⟨gb185, 4, none⟩ = some (.int .i64 a0_4) := (blk_cell BK185.out 4).trans rfl
              have hcz42_5 : wc.cell? ⟨gb185, 5, none⟩ = some (.int .u8 a0_5) := (blk_cell BK185.out 5).trans rfl
              have hcz42_6 : wc.cell? ⟨gb185, 6, none⟩ = some (.int .u8 a0_6) := (blk_cell BK185.out 6).trans rfl
              have hcz42_7 : wc.cell? ⟨gb185, 7, none⟩ = some (.int .u32 a0_7) := (blk_cell BK185.out 7).trans rfl
              have hcz42_8 : wc.cell? ⟨gb185, 8, none⟩ = some (.int .u32 a0_8) := (blk_cell BK185.out 8).trans rfl
              have hcz42_9 : wc.cell? ⟨gb185, 9, none⟩ = some (.slice A0_9 l0_9.length c0_9) := (blk_cell BK185.out 9).trans rfl
              have hcz42_10 : wc.cell? ⟨gb185, 10, none⟩ = some (.slice A0_10 l0_10.length c0_10) := (blk_cell BK185.out 10).trans rfl
              have hfz42_0 := blk_frozen BK185.out 0
              have hfz42_1 := blk_frozen BK185.out 1
              have hfz42_2 := blk_frozen BK185.out 2
              have hfz42_3 := blk_frozen BK185.out 3
              have hfz42_4 := blk_frozen BK185.out 4
              have hfz42_5 := blk_frozen BK185.out 5
              have hfz42_6 := blk_frozen BK185.out 6
              have hfz42_7 := blk_frozen BK185.out 7
              have hfz42_8 := blk_frozen BK185.out 8
              have hfz42_9 := blk_frozen BK185.out 9
              have hfz42_10 := blk_frozen BK185.out 10
              go_wp2
              go_ret2
              exact ⟨_, by first | rfl | (simp [errW_none, errW_some] <;> rfl) | (simp [*, errW_none, errW_some] <;> rfl), by first | exact Kd.S_nil _ _ _ _ _ | exact Kd.N_nil _ _ _ _ _ | exact Kd.V_nil _ _ _ _ _ | exact Kd.Q_nil _ _ _ _ _ | exact Kd.R_nil _ _ _ _ _, by repeat (first | (with_reducible first | exact HB.out | apply below_alloc | apply pw_below_drewN | apply below_drew1 | refine below_set ?_ GE185.out | refine below_set ?_ GE195.out) | exact HB.out)⟩
             ·
              rw [if_neg c38] at H
              have c38b0 : decide (8191 < (wrap64 (a0_4 + (wrap64 (Int.tdiv x10_2 8))))) = false := decide_eq_false c38
              clear c38
              by_cases c43 : (wrap64 ((l0_10.length : Int) - x10_2)) ≤ (wrap64 ((wrap64 (a1 - 20)) - (x196009_28.length : Int)))
              ·
               rw [if_pos c43] at H
               have c43b0 : decide ((wrap64 ((l0_10.length : Int) - x10_2)) ≤ (wrap64 ((wrap64 (a1 - 20)) - (x196009_28.length : Int)))) = true := decide_eq_true c43
               clear c43
               by_cases c44 : 0 ≤ x10_2
               ·
                rw [if_pos c44] at H
                have c44b0 := eq_true c44
                have c44b1 : decide (0 ≤ x10_2) = true := decide_eq_true c44
                clear c44
                by_cases c45 : x10_2 ≤ (l0_10.length : Int)
                ·
                 rw [if_pos c45] at H
                 have c45b0 := eq_true c45
                 have c45b1 : decide (x10_2 ≤ (l0_10.length : Int)) = true := decide_eq_true c45
                 clear c45
                 obtain ⟨y196, hy196⟩ : ∃ y_ : List Int, y_ = (l0_10.drop (x10_2 : Int).toNat) := ⟨_, rfl⟩
                 replace H : (if x9_2.length < 1759218604441 then (towroperef11_Split.l0 kj28 a1 t191 (x9_2 ++ [(⟨a0_0, a0_1, false, a0_3, wrap64 (a0_4 + (wrap64 (Int.tdiv x10_2 8))), a0_5, a0_6, a0_7, a0_8, x196009_28, y196⟩ : S68)]) (l0_10.length : Int) a0_0 a0_1 false a0_3 a0_4 a0_5 a0_6 a0_7 a0_8 l0_9 l0_10) else (none)) = some (r1, r2) := by first | (rw [hy196]; with_reducible exact H) | (have H2_ := (Option.bind_some _ _).symm.trans H; rw [hy196]; with_reducible exact H2_) | (have H2_ := (Option.bind_some _ _).symm.trans H; with_reducible exact H2_) | with_reducible exact H | (rw [hy196]; exact H) | exact H
                 have Ny196 := Aside0.mk hy196
                 clear hy196
                 by_cases c46 : x9_2.length < 1759218604441
                 ·
                  rw [if_pos c46] at H
                  have LMc46 := Aside0.mk c46
                  clear c46
                  obtain ⟨y201, hy201⟩ : ∃ y_ : List (S68), y_ = (x9_2 ++ [(⟨a0_0, a0_1, false, a0_3, wrap64 (a0_4 + (wrap64 (Int.tdiv x10_2 8))), a0_5, a0_6, a0_7, a0_8, x196009_28, y196⟩ : S68)]) := ⟨_, rfl⟩
                  replace H : (towroperef11_Split.l0 kj28 a1 t191 y201 (l0_10.length : Int) a0_0 a0_1 false a0_3 a0_4 a0_5 a0_6 a0_7 a0_8 l0_9 l0_10) = some (r1, r2) := by first | (rw [hy201]; with_reducible exact H) | (have H2_ := (Option.bind_some _ _).symm.trans H; rw [hy201]; with_reducible exact H2_) | (have H2_ := (Option.bind_some _ _).symm.trans H; with_reducible exact H2_) | with_reducible exact H | (rw [hy201]; exact H) | exact H
                  have Ny201 := Aside0.mk hy201
                  clear hy201
                  have H' := Aside0.mk H
                  clear H
                  have hnb47 := NB195_185.out
                  have hnc47 := NB185_195.out
                  have hcz48_0 : wc.cell? ⟨gb195, 0, none⟩ = some (.int .u8 a0_0) := (blk_cell BK195.out 0).trans rfl
                  have hcz48_1 : wc.cell? ⟨gb195, 1, none⟩ = some (.int .u16 a0_1) := (blk_cell BK195.out 1).trans rfl
                  have hcz48_2 : wc.cell? ⟨gb195, 2, none⟩ = some (.bool false) := (blk_cell BK195.out 2).trans rfl
                  have hcz48_3 : wc.cell? ⟨gb195, 3, none⟩ = some (.bool a0_3) := (blk_cell BK195.out 3).trans rfl
                  have hcz48_4 : wc.cell? ⟨gb195, 4, none⟩ = some (.int .i64 a0_4) := (blk_cell BK195.out 4).trans rfl
                  have hcz48_5 : wc.cell? ⟨gb195, 5, none⟩ = some (.int .u8 a0_5) := (blk_cell BK195.out 5).trans rfl
                  have hcz48_6 : wc.cell? ⟨gb195, 6, none⟩ = some (.int .u8 a0_6) := (blk_cell BK195.out 6).trans rfl
                  have hcz48_7 : wc.cell? ⟨gb195, 7, none⟩ = some (.int .u32 a0_7) := (blk_cell BK195.out 7).trans rfl
                  have hcz48_8 : wc.cell? ⟨gb195, 8, none⟩ = some (.int .u32 a0_8) := (blk_cell BK195.out 8).trans rfl
                  have hcz48_9 : wc.cell? ⟨gb195, 9, none⟩ = some (u196009) := (blk_cell BK195.out 9).trans rfl
                  have hcz48_10 : wc.cell? ⟨gb195, 10, none⟩ = some (.slice A0_10 l0_10.length c0_10) := (blk_cell BK195.out 10).trans rfl
                  have hfz48_0 := blk_frozen BK195.out 0
                  have hfz48_1 := blk_frozen BK195.out 1
                  have hfz48_2 := blk_frozen BK195.out 2
                  have hfz48_3 := blk_frozen BK195.out 3
                  have hfz48_4 := blk_frozen BK195.out 4
                  have hfz48_5 := blk_frozen BK195.out 5
                  have hfz48_6 := blk_frozen BK195.out 6
                  have hfz48_7 := blk_frozen BK195.out 7
                  have hfz48_8 := blk_frozen BK195.out 8
                  have hfz48_9 := blk_frozen BK195.out 9
                  have hfz48_10 := blk_frozen BK195.out 10
                  obtain ⟨Ao49, co49, eo49⟩ := Kd.V_slice HO_196009.out
                  subst eo49
                  have hcz50_0 : wc.cell? ⟨gb185, 0, none⟩ = some (.int .u8 a0_0) := (blk_cell BK185.out 0).trans rfl
                  have hcz50_1 : wc.cell? ⟨gb185, 1, none⟩ = some (.int .u16 a0_1) := (blk_cell BK185.out 1).trans rfl
                  have hcz50_2 : wc.cell? ⟨gb185, 2, none⟩ = some (.bool false) := (blk_cell BK185.out 2).trans rfl
                  have hcz50_3 : wc.cell? ⟨gb185, 3, none⟩ = some (.bool a0_3) := (blk_cell BK185.out 3).trans rfl
                  have hcz50_4 : wc.cell? ⟨gb185, 4, none⟩ = some (.int .i64 a0_4) := (blk_cell BK185.out 4).trans rfl
                  have hcz50_5 : wc.cell? ⟨gb185, 5, none⟩ = some (.int .u8 a0_5) := (blk_cell BK185.out 5).trans rfl
                  have hcz50_6 : wc.cell? ⟨gb185, 6, none⟩ = some (.int .u8 a0_6) := (blk_cell BK185.out 6).trans rfl
                  have hcz50_7 : wc.cell? ⟨gb185, 7, none⟩ = some (.int .u32 a0_7) := (blk_cell BK185.out 7).trans rfl
                  have hcz50_8 : wc.cell? ⟨gb185, 8, none⟩ = some (.int .u32 a0_8) := (blk_cell BK185.out 8).trans rfl
                  have hcz50_9 : wc.cell? ⟨gb185, 9, none⟩ = some (.slice A0_9 l0_9.length c0_9) := (blk_cell BK185.out 9).trans rfl
                  have hcz50_10 : wc.cell? ⟨gb185, 10, none⟩ = some (.slice A0_10 l0_10.length c0_10) := (blk_cell BK185.out 10).trans rfl
                  have hfz50_0 := blk_frozen BK185.out 0
                  have hfz50_1 := blk_frozen BK185.out 1
                  have hfz50_2 := blk_frozen BK185.out 2
                  have hfz50_3 := blk_frozen BK185.out 3
                  have hfz50_4 := blk_frozen BK185.out 4
                  have hfz50_5 := blk_frozen BK185.out 5
                  have hfz50_6 := blk_frozen BK185.out 6
                  have hfz50_7 := blk_frozen BK185.out 7
                  have hfz50_8 := blk_frozen BK185.out 8
                  have hfz50_9 := blk_frozen BK185.out 9
                  have hfz50_10 := blk_frozen BK185.out 10
                  go_wp2_with (first | ((with_reducible refine gate_store (t := 3) (p := 68) rfl ?_); refine store_event (t := 3) (p := 68) (v := ?vo_w51) (w1 := (wc.setCell ⟨gb195, 4, none⟩ (.int .i64 (wrap64 (a0_4 + (wrap64 (Int.tdiv x10_2 8))))))) ?hg ?ho ?hn ?hr ?_; (case ho => rfl); (case hg => rfl); (case hn => rfl); (case hr => first | (go_simp; done) | (go_simp; rfl)); intro w51 hw; have n0_ : Aside0 (Kd.R (Kd.int .u8) 5 w51 w.heap.size (fun k_ => (w.heap.size ≤ k_)) v193 t191) := ⟨(by rw [hw]; exact (by (with_reducible repeat (first | apply Kd.R_alloc | apply Kd.R_drewN | apply Kd.R_drew)); exact Kd.R_mono (Kd.R_far (p := ⟨gb195, 4, none⟩) (Kd.R_types HO_7.out BK195.out (by decide)) (fun _ hk => hk.2) (.int .i64 (wrap64 (a0_4 + (wrap64 (Int.tdiv x10_2 8)))))) (fun _ hk => hk.1)))⟩; have n1_ : Aside0 (Kd.N k68 68 w51 w.heap.size (fun k_ => ((P0_9_ k_ ∨ P0_10_ k_) ∨ w.heap.size ≤ k_) ∧ Triv v193 k_ ∧ k_ ≠ gb185 ∧ k_ ≠ gb195) u9 x9_2) := ⟨(by rw [hw]; exact (by (with_reducible repeat (first | apply Kd.N_alloc | apply Kd.N_drewN | apply Kd.N_drew)); exact Kd.N_mono (Kd.N_far (p := ⟨gb195, 4, none⟩) (Kd.N_mono HO_9.out (fun k_ hk => (⟨hk, hk.2.2.2⟩ : _ ∧ k_ ≠ gb195))) (fun _ hk => hk.2) (.int .i64 (wrap64 (a0_4 + (wrap64 (Int.tdiv x10_2 8)))))) (fun _ hk => ⟨hk.1.1, ⟨hk.1.2.1, ⟨hk.1.2.2.1, hk.1.2.2.2⟩⟩⟩)))⟩; have n2_ : Aside0 (Kd.V (Kd.int .u8) 5 w51 w.heap.size (fun k_ => ((P0_9_ k_ ∨ P0_10_ k_) ∨ w.heap.size ≤ k_) ∧ Triv v193 k_ ∧ some k_ ≠ (u9 : Value).ownBlock ∧ k_ ≠ gb185 ∧ k_ ≠ gb195) (.slice A0_9 l0_9.length c0_9) l0_9) := ⟨(by rw [hw]; exact (by (with_reducible repeat (first | apply Kd.V_alloc | apply Kd.V_drewN | apply Kd.V_drew)); exact Kd.V_mono (Kd.V_far (p := ⟨gb195, 4, none⟩) (Kd.V_mono HO_186009.out (fun k_ hk => (⟨hk, hk.2.2.2.2⟩ : _ ∧ k_ ≠ gb195))) (fun _ hk => hk.2) (.int .i64 (wrap64 (a0_4 + (wrap64 (Int.tdiv x10_2 8)))))) (fun _ hk => ⟨hk.1.1, ⟨hk.1.2.1, ⟨hk.1.2.2.1, ⟨hk.1.2.2.2.1, hk.1.2.2.2.2⟩⟩⟩⟩)))⟩; have n3_ : Aside0 (Kd.V (Kd.int .u8) 5 w51 w.heap.size (fun k_ => ((P0_9_ k_ ∨ P0_10_ k_) ∨ w.heap.size ≤ k_) ∧ Triv v193 k_ ∧ some k_ ≠ (u9 : Value).ownBlock ∧ k_ ≠ gb185 ∧ k_ ≠ gb195) (.slice A0_10 l0_10.length c0_10) l0_10) := ⟨(by rw [hw]; exact (by (with_reducible repeat (first | apply Kd.V_alloc | apply Kd.V_drewN | apply Kd.V_drew)); exact Kd.V_mono (Kd.V_far (p := ⟨gb195, 4, none⟩) (Kd.V_mono HO_186010.out (fun k_ hk => (⟨hk, hk.2.2.2.2⟩ : _ ∧ k_ ≠ gb195))) (fun _ hk => hk.2) (.int .i64 (wrap64 (a0_4 + (wrap64 (Int.tdiv x10_2 8)))))) (fun _ hk => ⟨hk.1.1, ⟨hk.1.2.1, ⟨hk.1.2.2.1, ⟨hk.1.2.2.2.1, hk.1.2.2.2.2⟩⟩⟩⟩)))⟩; have n4_ : Aside0 (Kd.V (Kd.int .u8) 5 w51 w.heap.size (fun k_ => ((P0_9_ k_ ∨ P0_10_ k_) ∨ w.heap.size ≤ k_) ∧ Triv v193 k_ ∧ some k_ ≠ (u9 : Value).ownBlock ∧ k_ ≠ gb185 ∧ k_ ≠ gb195) (.slice Ao49 x196009_28.length co49) x196009_28) := ⟨(by rw [hw]; exact (by (with_reducible repeat (first | apply Kd.V_alloc | apply Kd.V_drewN | apply Kd.V_drew)); exact Kd.V_mono (Kd.V_far (p := ⟨gb195, 4, none⟩) (Kd.V_mono HO_196009.out (fun k_ hk => (⟨hk, hk.2.2.2.2⟩ : _ ∧ k_ ≠ gb195))) (fun _ hk => hk.2) (.int .i64 (wrap64 (a0_4 + (wrap64 (Int.tdiv x10_2 8)))))) (fun _ hk => ⟨hk.1.1, ⟨hk.1.2.1, ⟨hk.1.2.2.1, ⟨hk.1.2.2.2.1, hk.1.2.2.2.2⟩⟩⟩⟩)))⟩; have n5_ : Aside0 (Kd.V (Kd.int .u8) 5 w51 w.heap.size (fun k_ => ((P0_9_ k_ ∨ P0_10_ k_) ∨ w.heap.size ≤ k_) ∧ Triv v193 k_ ∧ some k_ ≠ (u9 : Value).ownBlock ∧ k_ ≠ gb185 ∧ k_ ≠ gb195) (.slice A0_10 l0_10.length c0_10) l0_10) := ⟨(by rw [hw]; exact (by (with_reducible repeat (first | apply Kd.V_alloc | apply Kd.V_drewN | apply Kd.V_drew)); exact Kd.V_mono (Kd.V_far (p := ⟨gb195, 4, none⟩) (Kd.V_mono HO_196010.out (fun k_ hk => (⟨hk, hk.2.2.2.2⟩ : _ ∧ k_ ≠ gb195))) (fun _ hk => hk.2) (.int .i64 (wrap64 (a0_4 + (wrap64 (Int.tdiv x10_2 8)))))) (fun _ hk => ⟨hk.1.1, ⟨hk.1.2.1, ⟨hk.1.2.2.1, ⟨hk.1.2.2.2.1, hk.1.2.2.2.2⟩⟩⟩⟩)))⟩; have n6_ : Aside0 (w51.heap[gb185]? = some (.cells #[.int .u8 a0_0, .int .u16 a0_1, .bool false, .bool a0_3, .int .i64 a0_4, .int .u8 a0_5, .int .u8 a0_6, .int .u32 a0_7, .int .u32 a0_8, .slice A0_9 l0_9.length c0_9, .slice A0_10 l0_10.length c0_10] 68 (0, 0))) := ⟨(by rw [hw]; exact (by (with_reducible repeat (first | refine blk_drewN ?_ _ | refine blk_drew ?_ | refine blk_alloc ?_ _)); refine blk_far ?_ NB185_195.out _; (with_reducible repeat (first | refine blk_drewN ?_ _ | refine blk_drew ?_ | refine blk_alloc ?_ _)); exact BK185.out))⟩; have n7_ : Aside0 (w51.heap[gb195]? = some (.cells #[.int .u8 a0_0, .int .u16 a0_1, .bool false, .bool a0_3, .int .i64 (wrap64 (a0_4 + (wrap64 (Int.tdiv x10_2 8)))), .int .u8 a0_5, .int .u8 a0_6, .int .u32 a0_7, .int .u32 a0_8, .slice Ao49 x196009_28.length co49, .slice A0_10 l0_10.length c0_10] 68 (0, 0))) := ⟨(by rw [hw]; exact (by (with_reducible repeat (first | refine blk_drewN ?_ _ | refine blk_drew ?_ | refine blk_alloc ?_ _)); refine blk_put (cs := #[.int .u8 a0_0, .int .u16 a0_1, .bool false, .bool a0_3, .int .i64 a0_4, .int .u8 a0_5, .int .u8 a0_6, .int .u32 a0_7, .int .u32 a0_8, .slice Ao49 x196009_28.length co49, .slice A0_10 l0_10.length c0_10]) ?_ 4 _ rfl; (with_reducible repeat (first | refine blk_drewN ?_ _ | refine blk_drew ?_ | refine blk_alloc ?_ _)); exact BK195.out))⟩; have n8_ : Aside0 (Below w.heap.size w w51) := ⟨(by rw [hw]; exact (by repeat (first | (with_reducible first | exact HB.out | apply below_alloc | apply pw_below_drewN | apply below_drew1 | refine below_set ?_ GE185.out | refine below_set ?_ GE195.out) | exact HB.out)))⟩; clear hw; clear HO_7; clear HO_9; clear HO_186009; clear HO_186010; clear HO_196009; clear HO_196010; clear BK185; clear BK195; clear HB; have HO_7 := n0_; have HO_9 := n1_; have HO_186009 := n2_; have HO_186010 := n3_; have HO_196009 := n4_; have HO_196010 := n5_; have BK185 := n6_; have BK195 := n7_; have HB := n8_; clear n0_ n1_ n2_ n3_ n4_ n5_ n6_ n7_ n8_; have hcz52_0 : w51.cell? ⟨gb195, 0, none⟩ = some (.int .u8 a0_0) := (blk_cell BK195.out 0).trans rfl; have hcz52_1 : w51.cell? ⟨gb195, 1, none⟩ = some (.int .u16 a0_1) := (blk_cell BK195.out 1).trans rfl; have hcz52_2 : w51.cell? ⟨gb195, 2, none⟩ = some (.bool false) := (blk_cell BK195.out 2).trans rfl; have hcz52_3 : w51.cell? ⟨gb195, 3, none⟩ = some (.bool a0_3) := (blk_cell BK195.out 3).trans rfl; have hcz52_4 : w51.cell? ⟨gb195, 4, none⟩ = some (.int .i64 (wrap64 (a0_4 + (wrap64 (Int.tdiv x10_2 8))))) := (blk_cell BK195.out 4).trans rfl; have hcz52_5 : w51.cell? ⟨gb195, 5, none⟩ = some (.int .u8 a0_5) := (blk_cell BK195.out 5).trans rfl; have hcz52_6 : w51.cell? ⟨gb195, 6, none⟩ = some (.int .u8 a0_6) := (blk_cell BK195.out 6).trans rfl; have hcz52_7 : w51.cell? ⟨gb195, 7, none⟩ = some (.int .u32 a0_7) := (blk_cell BK195.out 7).trans rfl; have hcz52_8 : w51.cell? ⟨gb195, 8, none⟩ = some (.int .u32 a0_8) := (blk_cell BK195.out 8).trans rfl; have hcz52_9 : w51.cell? ⟨gb195, 9, none⟩ = some (.slice Ao49 x196009_28.length co49) := (blk_cell BK195.out 9).trans rfl; have hcz52_10 : w51.cell? ⟨gb195, 10, none⟩ = some (.slice A0_10 l0_10.length c0_10) := (blk_cell BK195.out 10).trans rfl; have hfz52_0 := blk_frozen BK195.out 0; have hfz52_1 := blk_frozen BK195.out 1; have hfz52_2 := blk_frozen BK195.out 2; have hfz52_3 := blk_frozen BK195.out 3; have hfz52_4 := blk_frozen BK195.out 4; have hfz52_5 := blk_frozen BK195.out 5; have hfz52_6 := blk_frozen BK195.out 6; have hfz52_7 := blk_frozen BK195.out 7; have hfz52_8 := blk_frozen BK195.out 8; have hfz52_9 := blk_frozen BK195.out 9; have hfz52_10 := blk_frozen BK195.out 10; have hcz53_0 : w51.cell? ⟨gb185, 0, none⟩ = some (.int .u8 a0_0) := (blk_cell BK185.out 0).trans rfl; have hcz53_1 : w51.cell? ⟨gb185, 1, none⟩ = some (.int .u16 a0_1) := (blk_cell BK185.out 1).trans rfl; have hcz53_2 : w51.cell? ⟨gb185, 2, none⟩ = some (.bool false) := (blk_cell BK185.out 2).trans rfl; have hcz53_3 : w51.cell? ⟨gb185, 3, none⟩ = some (.bool a0_3) := (blk_cell BK185.out 3).trans rfl; have hcz53_4 : w51.cell? ⟨gb185, 4, none⟩ = some (.int .i64 a0_4) := (blk_cell BK185.out 4).trans rfl; have hcz53_5 : w51.cell? ⟨gb185, 5, none⟩ = some (.int .u8 a0_5) := (blk_cell BK185.out 5).trans rfl; have hcz53_6 : w51.cell? ⟨gb185, 6, none⟩ = some (.int .u8 a0_6) := (blk_cell BK185.out 6).trans rfl; have hcz53_7 : w51.cell? ⟨gb185, 7, none⟩ = some (.int .u32 a0_7) := (blk_cell BK185.out 7).trans rfl; have hcz53_8 : w51.cell? ⟨gb185, 8, none⟩ = some (.int .u32 a0_8) := (blk_cell BK185.out 8).trans rfl; have hcz53_9 : w51.cell? ⟨gb185, 9, none⟩ = some (.slice A0_9 l0_9.length c0_9) := (blk_cell BK185.out 9).trans rfl; have hcz53_10 : w51.cell? ⟨gb185, 10, none⟩ = some (.slice A0_10 l0_10.length c0_10) := (blk_cell BK185.out 10).trans rfl; have hfz53_0 := blk_frozen BK185.out 0; have hfz53_1 := blk_frozen BK185.out 1; have hfz53_2 := blk_frozen BK185.out 2; have hfz53_3 := blk_frozen BK185.out 3; have hfz53_4 := blk_frozen BK185.out 4; have hfz53_5 := blk_frozen BK185.out 5; have hfz53_6 := blk_frozen BK185.out 6; have hfz53_7 := blk_frozen BK185.out 7; have hfz53_8 := blk_frozen BK185.out 8; have hfz53_9 := blk_frozen BK185.out 9; have hfz53_10 := blk_frozen BK185.out 10; have q54 : (x10_2 : Int) ≤ ((l0_10.length : Int) : Int) := of_decide_eq_true (by first | (with_reducible assumption) | assumption); obtain ⟨i054, hi054, _, hsz54, _⟩ := info_parts info5; have hroom54 : l0_10.length ≤ c0_10 := (Kd.V_reads' HO_186010.out).2.1; have hC54 : Kd.F (Kd.int .u8) _ _ A0_10 l0_10.length l0_10 := (Kd.V_at (base := w.heap.size) HO_186010.out).2.2; have q054 : (0 : Int) ≤ (x10_2 : Int) := of_decide_eq_true (by first | (with_reducible assumption) | assumption); have hcut54 := cut_from (P := Try.prog) 23 5 .i64 Try.underlying23 hi054 1 hsz54 A0_10 l0_10.length c0_10 x10_2 q054 q54; have hr54 := Kd.F_cut (m := (x10_2 : Int).toNat) (c := c0_10) hC54 (by omega) hroom54; obtain ⟨A54, hA54⟩ : ∃ A1, A1 = (if c0_10 = (x10_2 : Int).toNat then A0_10 else (A0_10 : Option Addr).map (·.add ((x10_2 : Int).toNat * 1))) := ⟨_, rfl⟩; obtain ⟨c54, hc54⟩ : ∃ c1, c1 = c0_10 - (x10_2 : Int).toNat := ⟨_, rfl⟩; have hy54 : y196.length = l0_10.length - (x10_2 : Int).toNat := (by rw [Ny196.out, List.length_drop] <;> omega); rw [show (l0_10).drop (x10_2 : Int).toNat = y196 from Ny196.out.symm] at hr54; replace hr54 : Kd.F (Kd.int .u8) _ _ A54 y196.length y196 := (by rw [hA54]; exact hr54); rw [← hy54, ← hA54, ← hc54] at hcut54; have HO200 := Aside0.mk (show Kd.V (Kd.int .u8) 5 _ w.heap.size _ (.slice A54 y196.length c54) y196 from Kd.V_mk (by rw [hy54, hc54]; exact Nat.sub_le_sub_right hroom54 _) hr54); have HC200 := Aside0.mk (show y196.length ≤ c54 from by rw [hy54, hc54]; exact Nat.sub_le_sub_right hroom54 _); clear hr54 hC54 hroom54 hi054 hsz54 hc54; have KY54 := Aside0.mk hy54; have KA54 := Aside0.mk hA54; clear hy54 hA54; replace q54 := eq_true q54) | ((with_reducible refine gate_store (t := 23) (p := 79) rfl ?_); refine store_event (t := 23) (p := 79) (v := ?vo_w55) (w1 := (w51.setCell ⟨gb195, 10, none⟩ (.slice A54 y196.length c54))) ?hg ?ho ?hn ?hr ?_; (case ho => rfl); (case hg => rfl); (case hn => rfl); (case hr => first | (go_simp; done) | (go_simp; rfl)); intro w55 hw; have n0_ : Aside0 (Kd.R (Kd.int .u8) 5 w55 w.heap.size (fun k_ => (w.heap.size ≤ k_)) v193 t191) := ⟨(by rw [hw]; exact (by (with_reducible repeat (first | apply Kd.R_alloc | apply Kd.R_drewN | apply Kd.R_drew)); exact Kd.R_mono (Kd.R_far (p := ⟨gb195, 10, none⟩) (Kd.R_types HO_7.out BK195.out (by decide)) (fun _ hk => hk.2) (.slice A54 y196.length c54)) (fun _ hk => hk.1)))⟩; have n1_ : Aside0 (Kd.N k68 68 w55 w.heap.size (fun k_ => ((P0_9_ k_ ∨ P0_10_ k_) ∨ w.heap.size ≤ k_) ∧ Triv v193 k_ ∧ k_ ≠ gb185 ∧ k_ ≠ gb195) u9 x9_2) := ⟨(by rw [hw]; exact (by (with_reducible repeat (first | apply Kd.N_alloc | apply Kd.N_drewN | apply Kd.N_drew)); exact Kd.N_mono (Kd.N_far (p := ⟨gb195, 10, none⟩) (Kd.N_mono HO_9.out (fun k_ hk => (⟨hk, hk.2.2.2⟩ : _ ∧ k_ ≠ gb195))) (fun _ hk => hk.2) (.slice A54 y196.length c54)) (fun _ hk => ⟨hk.1.1, ⟨hk.1.2.1, ⟨hk.1.2.2.1, hk.1.2.2.2⟩⟩⟩)))⟩; have n2_ : Aside0 (Kd.V (Kd.int .u8) 5 w55 w.heap.size (fun k_ => ((P0_9_ k_ ∨ P0_10_ k_) ∨ w.heap.size ≤ k_) ∧ Triv v193 k_ ∧ some k_ ≠ (u9 : Value).ownBlock ∧ k_ ≠ gb185 ∧ k_ ≠ gb195) (.slice A0_9 l0_9.length c0_9) l0_9) := ⟨(by rw [hw]; exact (by (with_reducible repeat (first | apply Kd.V_alloc | apply Kd.V_drewN | apply Kd.V_drew)); exact Kd.V_mono (Kd.V_far (p := ⟨gb195, 10, none⟩) (Kd.V_mono HO_186009.out (fun k_ hk => (⟨hk, hk.2.2.2.2⟩ : _ ∧ k_ ≠ gb195))) (fun _ hk => hk.2) (.slice A54 y196.length c54)) (fun _ hk => ⟨hk.1.1, ⟨hk.1.2.1, ⟨hk.1.2.2.1, ⟨hk.1.2.2.2.1, hk.1.2.2.2.2⟩⟩⟩⟩)))⟩; have n3_ : Aside0 (Kd.V (Kd.int .u8) 5 w55 w.heap.size (fun k_ => ((P0_9_ k_ ∨ P0_10_ k_) ∨ w.heap.size ≤ k_) ∧ Triv v193 k_ ∧ some k_ ≠ (u9 : Value).ownBlock ∧ k_ ≠ gb185 ∧ k_ ≠ gb195) (.slice A0_10 l0_10.length c0_10) l0_10) := ⟨(by rw [hw]; exact (by (with_reducible repeat (first | apply Kd.V_alloc | apply Kd.V_drewN | apply Kd.V_drew)); exact Kd.V_mono (Kd.V_far (p := ⟨gb195, 10, none⟩) (Kd.V_mono HO_186010.out (fun k_ hk => (⟨hk, hk.2.2.2.2⟩ : _ ∧ k_ ≠ gb195))) (fun _ hk => hk.2) (.slice A54 y196.length c54)) (fun _ hk => ⟨hk.1.1, ⟨hk.1.2.1, ⟨hk.1.2.2.1, ⟨hk.1.2.2.2.1, hk.1.2.2.2.2⟩⟩⟩⟩)))⟩; have n4_ : Aside0 (Kd.V (Kd.int .u8) 5 w55 w.heap.size (fun k_ => ((P0_9_ k_ ∨ P0_10_ k_) ∨ w.heap.size ≤ k_) ∧ Triv v193 k_ ∧ some k_ ≠ (u9 : Value).ownBlock ∧ k_ ≠ gb185 ∧ k_ ≠ gb195) (.slice Ao49 x196009_28.length co49) x196009_28) := ⟨(by rw [hw]; exact (by (with_reducible repeat (first | apply Kd.V_alloc | apply Kd.V_drewN | apply Kd.V_drew)); exact Kd.V_mono (Kd.V_far (p := ⟨gb195, 10, none⟩) (Kd.V_mono HO_196009.out (fun k_ hk => (⟨hk, hk.2.2.2.2⟩ : _ ∧ k_ ≠ gb195))) (fun _ hk => hk.2) (.slice A54 y196.length c54)) (fun _ hk => ⟨hk.1.1, ⟨hk.1.2.1, ⟨hk.1.2.2.1, ⟨hk.1.2.2.2.1, hk.1.2.2.2.2⟩⟩⟩⟩)))⟩; have n5_ : Aside0 (Kd.V (Kd.int .u8) 5 w55 w.heap.size (fun k_ => ((P0_9_ k_ ∨ P0_10_ k_) ∨ w.heap.size ≤ k_) ∧ Triv v193 k_ ∧ some k_ ≠ (u9 : Value).ownBlock ∧ k_ ≠ gb185 ∧ k_ ≠ gb195) (.slice A0_10 l0_10.length c0_10) l0_10) := ⟨(by rw [hw]; exact (by (with_reducible repeat (first | apply Kd.V_alloc | apply Kd.V_drewN | apply Kd.V_drew)); exact Kd.V_mono (Kd.V_far (p := ⟨gb195, 10, none⟩) (Kd.V_mono HO_196010.out (fun k_ hk => (⟨hk, hk.2.2.2.2⟩ : _ ∧ k_ ≠ gb195))) (fun _ hk => hk.2) (.slice A54 y196.length c54)) (fun _ hk => ⟨hk.1.1, ⟨hk.1.2.1, ⟨hk.1.2.2.1, ⟨hk.1.2.2.2.1, hk.1.2.2.2.2⟩⟩⟩⟩)))⟩; have n6_ : Aside0 (Kd.V (Kd.int .u8) 5 w55 w.heap.size (fun k_ => ((P0_9_ k_ ∨ P0_10_ k_) ∨ w.heap.size ≤ k_) ∧ Triv v193 k_ ∧ some k_ ≠ (u9 : Value).ownBlock ∧ k_ ≠ gb185 ∧ k_ ≠ gb195) (.slice A54 y196.length c54) y196) := ⟨(by rw [hw]; exact (by (with_reducible repeat (first | apply Kd.V_alloc | apply Kd.V_drewN | apply Kd.V_drew)); exact Kd.V_mono (Kd.V_far (p := ⟨gb195, 10, none⟩) (Kd.V_mono HO200.out (fun k_ hk => (⟨hk, hk.2.2.2.2⟩ : _ ∧ k_ ≠ gb195))) (fun _ hk => hk.2) (.slice A54 y196.length c54)) (fun _ hk => ⟨hk.1.1, ⟨hk.1.2.1, ⟨hk.1.2.2.1, ⟨hk.1.2.2.2.1, hk.1.2.2.2.2⟩⟩⟩⟩)))⟩; have n7_ : Aside0 (w55.heap[gb185]? = some (.cells #[.int .u8 a0_0, .int .u16 a0_1, .bool false, .bool a0_3, .int .i64 a0_4, .int .u8 a0_5, .int .u8 a0_6, .int .u32 a0_7, .int .u32 a0_8, .slice A0_9 l0_9.length c0_9, .slice A0_10 l0_10.length c0_10] 68 (0, 0))) := ⟨(by rw [hw]; exact (by (with_reducible repeat (first | refine blk_drewN ?_ _ | refine blk_drew ?_ | refine blk_alloc ?_ _)); refine blk_far ?_ NB185_195.out _; (with_reducible repeat (first | refine blk_drewN ?_ _ | refine blk_drew ?_ | refine blk_alloc ?_ _)); exact BK185.out))⟩; have n8_ : Aside0 (w55.heap[gb195]? = some (.cells #[.int .u8 a0_0, .int .u16 a0_1, .bool false, .bool a0_3, .int .i64 (wrap64 (a0_4 + (wrap64 (Int.tdiv x10_2 8)))), .int .u8 a0_5, .int .u8 a0_6, .int .u32 a0_7, .int .u32 a0_8, .slice Ao49 x196009_28.length co49, .slice A54 y196.length c54] 68 (0, 0))) := ⟨(by rw [hw]; exact (by (with_reducible repeat (first | refine blk_drewN ?_ _ | refine blk_drew ?_ | refine blk_alloc ?_ _)); refine blk_put (cs := #[.int .u8 a0_0, .int .u16 a0_1, .bool false, .bool a0_3, .int .i64 (wrap64 (a0_4 + (wrap64 (Int.tdiv x10_2 8)))), .int .u8 a0_5, .int .u8 a0_6, .int .u32 a0_7, .int .u32 a0_8, .slice Ao49 x196009_28.length co49, .slice A0_10 l0_10.length c0_10]) ?_ 10 _ rfl; (with_reducible repeat (first | refine blk_drewN ?_ _ | refine blk_drew ?_ | refine blk_alloc ?_ _)); exact BK195.out))⟩; have n9_ : Aside0 (Below w.heap.size w w55) := ⟨(by rw [hw]; exact (by repeat (first | (with_reducible first | exact HB.out | apply below_alloc | apply pw_below_drewN | apply below_drew1 | refine below_set ?_ GE185.out | refine below_set ?_ GE195.out) | exact HB.out)))⟩; clear hw; clear HO_7; clear HO_9; clear HO_186009; clear HO_186010; clear HO_196009; clear HO_196010; clear HO200; clear BK185; clear BK195; clear HB; have HO_7 := n0_; have HO_9 := n1_; have HO_186009 := n2_; have HO_186010 := n3_; have HO_196009 := n4_; have HO_196010 := n5_; have HO200 := n6_; have BK185 := n7_; have BK195 := n8_; have HB := n9_; clear n0_ n1_ n2_ n3_ n4_ n5_ n6_ n7_ n8_ n9_; have hcz56_0 : w55.cell? ⟨gb185, 0, none⟩ = some (.int .u8 a0_0) := (blk_cell BK185.out 0).trans rfl; have hcz56_1 : w55.cell? ⟨gb185, 1, none⟩ = some (.int .u16 a0_1) := (blk_cell BK185.out 1).trans rfl; have hcz56_2 : w55.cell? ⟨gb185, 2, none⟩ = some (.bool false) := (blk_cell BK185.out 2).trans rfl; have hcz56_3 : w55.cell? ⟨gb185, 3, none⟩ = some (.bool a0_3) := (blk_cell BK185.out 3).trans rfl; have hcz56_4 : w55.cell? ⟨gb185, 4, none⟩ = some (.int .i64 a0_4) := (blk_cell BK185.out 4).trans rfl; have hcz56_5 : w55.cell? ⟨gb185, 5, none⟩ = some (.int .u8 a0_5) := (blk_cell BK185.out 5).trans rfl; have hcz56_6 : w55.cell? ⟨gb185, 6, none⟩ = some (.int .u8 a0_6) := (blk_cell BK185.out 6).trans rfl; have hcz56_7 : w55.cell? ⟨gb185, 7, none⟩ = some (.int .u32 a0_7) := (blk_cell BK185.out 7).trans rfl; have hcz56_8 : w55.cell? ⟨gb185, 8, none⟩ = some (.int .u32 a0_8) := (blk_cell BK185.out 8).trans rfl; have hcz56_9 : w55.cell? ⟨gb185, 9, none⟩ = some (.slice A0_9 l0_9.length c0_9) := (blk_cell BK185.out 9).trans rfl; have hcz56_10 : w55.cell? ⟨gb185, 10, none⟩ = some (.slice A0_10 l0_10.length c0_10) := (blk_cell BK185.out 10).trans rfl; have hfz56_0 := blk_frozen BK185.out 0; have hfz56_1 := blk_frozen BK185.out 1; have hfz56_2 := blk_frozen BK185.out 2; have hfz56_3 := blk_frozen BK185.out 3; have hfz56_4 := blk_frozen BK185.out 4; have hfz56_5 := blk_frozen BK185.out 5; have hfz56_6 := blk_frozen BK185.out 6; have hfz56_7 := blk_frozen BK185.out 7; have hfz56_8 := blk_frozen BK185.out 8; have hfz56_9 := blk_frozen BK185.out 9; have hfz56_10 := blk_frozen BK185.out 10; have hcz57_0 : w55.cell? ⟨gb195, 0, none⟩ = some (.int .u8 a0_0) := (blk_cell BK195.out 0).trans rfl; have hcz57_1 : w55.cell? ⟨gb195, 1, none⟩ = some (.int .u16 a0_1) := (blk_cell BK195.out 1).trans rfl; have hcz57_2 : w55.cell? ⟨gb195, 2, none⟩ = some (.bool false) := (blk_cell BK195.out 2).trans rfl; have hcz57_3 : w55.cell? ⟨gb195, 3, none⟩ = some (.bool a0_3) := (blk_cell BK195.out 3).trans rfl; have hcz57_4 : w55.cell? ⟨gb195, 4, none⟩ = some (.int .i64 (wrap64 (a0_4 + (wrap64 (Int.tdiv x10_2 8))))) := (blk_cell BK195.out 4).trans rfl; have hcz57_5 : w55.cell? ⟨gb195, 5, none⟩ = some (.int .u8 a0_5) := (blk_cell BK195.out 5).trans rfl; have hcz57_6 : w55.cell? ⟨gb195, 6, none⟩ = some (.int .u8 a0_6) := (blk_cell BK195.out 6).trans rfl; have hcz57_7 : w55.cell? ⟨gb195, 7, none⟩ = some (.int .u32 a0_7) := (blk_cell BK195.out 7).trans rfl; have hcz57_8 : w55.cell? ⟨gb195, 8, none⟩ = some (.int .u32 a0_8) := (blk_cell BK195.out 8).trans rfl; have hcz57_9 : w55.cell? ⟨gb195, 9, none⟩ = some (.slice Ao49 x196009_28.length co49) := (blk_cell BK195.out 9).trans rfl; have hcz57_10 : w55.cell? ⟨gb195, 10, none⟩ = some (.slice A54 y196.length c54) := (blk_cell BK195.out 10).trans rfl; have hfz57_0 := blk_frozen BK195.out 0; have hfz57_1 := blk_frozen BK195.out 1; have hfz57_2 := blk_frozen BK195.out 2; have hfz57_3 := blk_frozen BK195.out 3; have hfz57_4 := blk_frozen BK195.out 4; have hfz57_5 := blk_frozen BK195.out 5; have hfz57_6 := blk_frozen BK195.out 6; have hfz57_7 := blk_frozen BK195.out 7; have hfz57_8 := blk_frozen BK195.out 8; have hfz57_9 := blk_frozen BK195.out 9; have hfz57_10 := blk_frozen BK195.out 10) | ((with_reducible refine gate_builtin (b := .append) (xs := #[.tmp 98, .tmp 100]) rfl ?_); at_builtin; refine Kd.N_append k68 (w0 := w) w.heap.size rfl (.tmp 98) (.tmp 100) 70 68 (.agg #[(.int .u8 0), (.int .u16 0), (.bool false), (.bool false), (.int .i64 0), (.int .u8 0), (.int .u8 0), (.int .u32 0), (.int .u32 0), (.slice none 0 0), (.slice none 0 0)]) 80 rfl Try.underlying70 info68 rfl (by decide) (by omega) u9 x9_2 (⟨a0_0, a0_1, false, a0_3, wrap64 (a0_4 + (wrap64 (Int.tdiv x10_2 8))), a0_5, a0_6, a0_7, a0_8, x196009_28, y196⟩ : S68) [.int .u8 a0_0, .int .u16 a0_1, .bool false, .bool a0_3, .int .i64 (wrap64 (a0_4 + (wrap64 (Int.tdiv x10_2 8)))), .int .u8 a0_5, .int .u8 a0_6, .int .u32 a0_7, .int .u32 a0_8, .slice Ao49 x196009_28.length co49, .slice A54 y196.length c54] (fun k_ => ((P0_9_ k_ ∨ P0_10_ k_) ∨ w.heap.size ≤ k_) ∧ Triv v193 k_ ∧ k_ ≠ gb185 ∧ k_ ≠ gb195) (fun k_ => ((fun k_ => ((P0_9_ k_ ∨ P0_10_ k_) ∨ w.heap.size ≤ k_) ∧ Triv v193 k_ ∧ k_ ≠ gb185 ∧ k_ ≠ gb195)) k_ ∧ some k_ ≠ (u9 : Value).ownBlock) rfl rfl ?aP (fun _ hk => hk) ?aF ?aO ?aB ?aS ?aL ?_; (case aP => exact (k68_mkF _ _ (⟨a0_0, a0_1, false, a0_3, wrap64 (a0_4 + (wrap64 (Int.tdiv x10_2 8))), a0_5, a0_6, a0_7, a0_8, x196009_28, y196⟩ : S68) (Kd.V_reads' (Kd.V_mono (ok' := (fun k_ => ((fun k_ => ((P0_9_ k_ ∨ P0_10_ k_) ∨ w.heap.size ≤ k_) ∧ Triv v193 k_ ∧ k_ ≠ gb185 ∧ k_ ≠ gb195)) k_ ∧ some k_ ≠ (u9 : Value).ownBlock)) (HO_196009.out) (fun k_ hk => ⟨⟨hk.1, ⟨hk.2.1, ⟨hk.2.2.2.1, hk.2.2.2.2⟩⟩⟩, hk.2.2.1⟩))).2.1 (Kd.V_F (Kd.V_mono (ok' := (fun k_ => ((fun k_ => ((P0_9_ k_ ∨ P0_10_ k_) ∨ w.heap.size ≤ k_) ∧ Triv v193 k_ ∧ k_ ≠ gb185 ∧ k_ ≠ gb195)) k_ ∧ some k_ ≠ (u9 : Value).ownBlock)) (HO_196009.out) (fun k_ hk => ⟨⟨hk.1, ⟨hk.2.1, ⟨hk.2.2.2.1, hk.2.2.2.2⟩⟩⟩, hk.2.2.1⟩))) (Kd.V_reads' (Kd.V_mono (ok' := (fun k_ => ((fun k_ => ((P0_9_ k_ ∨ P0_10_ k_) ∨ w.heap.size ≤ k_) ∧ Triv v193 k_ ∧ k_ ≠ gb185 ∧ k_ ≠ gb195)) k_ ∧ some k_ ≠ (u9 : Value).ownBlock)) (HO200.out) (fun k_ hk => ⟨⟨hk.1, ⟨hk.2.1, ⟨hk.2.2.2.1, hk.2.2.2.2⟩⟩⟩, hk.2.2.1⟩))).2.1 (Kd.V_F (Kd.V_mono (ok' := (fun k_ => ((fun k_ => ((P0_9_ k_ ∨ P0_10_ k_) ∨ w.heap.size ≤ k_) ∧ Triv v193 k_ ∧ k_ ≠ gb185 ∧ k_ ≠ gb195)) k_ ∧ some k_ ≠ (u9 : Value).ownBlock)) (HO200.out) (fun k_ hk => ⟨⟨hk.1, ⟨hk.2.1, ⟨hk.2.2.2.1, hk.2.2.2.2⟩⟩⟩, hk.2.2.1⟩))))); (case aB => exact (by repeat (first | (with_reducible first | exact HB.out | apply below_alloc | apply pw_below_drewN | apply below_drew1 | refine below_set ?_ GE185.out | refine below_set ?_ GE195.out) | exact HB.out))); (case aF => exact (fun k_ hk => ⟨(.inr (Nat.le_trans (below_size (by repeat (first | (with_reducible first | exact HB.out | apply below_alloc | apply pw_below_drewN | apply below_drew1 | refine below_set ?_ GE185.out | refine below_set ?_ GE195.out) | exact HB.out))) hk)), trivial, Kd.freshB (g := gb185) (o := .cells #[.int .u8 a0_0, .int .u16 a0_1, .bool false, .bool a0_3, .int .i64 a0_4, .int .u8 a0_5, .int .u8 a0_6, .int .u32 a0_7, .int .u32 a0_8, .slice A0_9 l0_9.length c0_9, .slice A0_10 l0_10.length c0_10] 68 (0, 0)) (by (with_reducible repeat (first | refine blk_drewN ?_ _ | refine blk_drew ?_ | refine blk_alloc ?_ _)); exact BK185.out) k_ hk, Kd.freshB (g := gb195) (o := .cells #[.int .u8 a0_0, .int .u16 a0_1, .bool false, .bool a0_3, .int .i64 (wrap64 (a0_4 + (wrap64 (Int.tdiv x10_2 8)))), .int .u8 a0_5, .int .u8 a0_6, .int .u32 a0_7, .int .u32 a0_8, .slice Ao49 x196009_28.length co49, .slice A54 y196.length c54] 68 (0, 0)) (by (with_reducible repeat (first | refine blk_drewN ?_ _ | refine blk_drew ?_ | refine blk_alloc ?_ _)); exact BK195.out) k_ hk⟩)); (case aO => exact (by (with_reducible repeat (first | apply Kd.N_alloc | apply Kd.N_drewN | apply Kd.N_drew)); exact HO_9.out)); (case aS => exact (below_size (by repeat (first | (with_reducible first | exact HB.out | apply below_alloc | apply pw_below_drewN | apply below_drew1 | refine below_set ?_ GE185.out | refine below_set ?_ GE195.out) | exact HB.out)))); (case aL => have := LMc46.out; omega); intro v202 w58 ho hb hg hat; rw [← Ny201.out] at ho; have n0_ := Aside0.mk (Kd.R_over' (by (with_reducible repeat (first | apply Kd.R_alloc | apply Kd.R_drewN | apply Kd.R_drew)); exact HO_7.out) (Kd.N_typed (by (with_reducible repeat (first | apply Kd.N_alloc | apply Kd.N_drewN | apply Kd.N_drew)); exact HO_9.out)) (by decide) hg); have n1_ := Aside0.mk (Kd.V_afterv (ok := (fun k_ => ((P0_9_ k_ ∨ P0_10_ k_) ∨ w.heap.size ≤ k_) ∧ Triv v193 k_ ∧ k_ ≠ gb185 ∧ k_ ≠ gb195)) (by (with_reducible repeat (first | apply Kd.V_alloc | apply Kd.V_drewN | apply Kd.V_drew)); exact Kd.V_mono HO_186009.out (fun _ hk => ⟨⟨hk.1, ⟨hk.2.1, ⟨hk.2.2.2.1, hk.2.2.2.2⟩⟩⟩, hk.2.2.1⟩)) hg hat); have n2_ := Aside0.mk (Kd.V_afterv (ok := (fun k_ => ((P0_9_ k_ ∨ P0_10_ k_) ∨ w.heap.size ≤ k_) ∧ Triv v193 k_ ∧ k_ ≠ gb185 ∧ k_ ≠ gb195)) (by (with_reducible repeat (first | apply Kd.V_alloc | apply Kd.V_drewN | apply Kd.V_drew)); exact Kd.V_mono HO_186010.out (fun _ hk => ⟨⟨hk.1, ⟨hk.2.1, ⟨hk.2.2.2.1, hk.2.2.2.2⟩⟩⟩, hk.2.2.1⟩)) hg hat); have n3_ := Aside0.mk (Kd.V_afterv (ok := (fun k_ => ((P0_9_ k_ ∨ P0_10_ k_) ∨ w.heap.size ≤ k_) ∧ Triv v193 k_ ∧ k_ ≠ gb185 ∧ k_ ≠ gb195)) (by (with_reducible repeat (first | apply Kd.V_alloc | apply Kd.V_drewN | apply Kd.V_drew)); exact Kd.V_mono HO_196009.out (fun _ hk => ⟨⟨hk.1, ⟨hk.2.1, ⟨hk.2.2.2.1, hk.2.2.2.2⟩⟩⟩, hk.2.2.1⟩)) hg hat); have n4_ := Aside0.mk (Kd.V_afterv (ok := (fun k_ => ((P0_9_ k_ ∨ P0_10_ k_) ∨ w.heap.size ≤ k_) ∧ Triv v193 k_ ∧ k_ ≠ gb185 ∧ k_ ≠ gb195)) (by (with_reducible repeat (first | apply Kd.V_alloc | apply Kd.V_drewN | apply Kd.V_drew)); exact Kd.V_mono HO_196010.out (fun _ hk => ⟨⟨hk.1, ⟨hk.2.1, ⟨hk.2.2.2.1, hk.2.2.2.2⟩⟩⟩, hk.2.2.1⟩)) hg hat); have n5_ := Aside0.mk (blk_grown (g := gb185) (o := .cells #[.int .u8 a0_0, .int .u16 a0_1, .bool false, .bool a0_3, .int .i64 a0_4, .int .u8 a0_5, .int .u8 a0_6, .int .u32 a0_7, .int .u32 a0_8, .slice A0_9 l0_9.length c0_9, .slice A0_10 l0_10.length c0_10] 68 (0, 0)) (by (with_reducible repeat (first | refine blk_drewN ?_ _ | refine blk_drew ?_ | refine blk_alloc ?_ _)); exact BK185.out) hg (Kd.N_away HO_9.out (fun _ hk => hk.2.2.1))); have n6_ := Aside0.mk (blk_grown (g := gb195) (o := .cells #[.int .u8 a0_0, .int .u16 a0_1, .bool false, .bool a0_3, .int .i64 (wrap64 (a0_4 + (wrap64 (Int.tdiv x10_2 8)))), .int .u8 a0_5, .int .u8 a0_6, .int .u32 a0_7, .int .u32 a0_8, .slice Ao49 x196009_28.length co49, .slice A54 y196.length c54] 68 (0, 0)) (by (with_reducible repeat (first | refine blk_drewN ?_ _ | refine blk_drew ?_ | refine blk_alloc ?_ _)); exact BK195.out) hg (Kd.N_away HO_9.out (fun _ hk => hk.2.2.2))); have n7_ := Aside0.mk (Kd.V_afterv (ok := (fun k_ => ((P0_9_ k_ ∨ P0_10_ k_) ∨ w.heap.size ≤ k_) ∧ Triv v193 k_ ∧ k_ ≠ gb185 ∧ k_ ≠ gb195)) (by (with_reducible repeat (first | apply Kd.V_alloc | apply Kd.V_drewN | apply Kd.V_drew)); exact Kd.V_mono HO200.out (fun _ hk => ⟨⟨hk.1, ⟨hk.2.1, ⟨hk.2.2.2.1, hk.2.2.2.2⟩⟩⟩, hk.2.2.1⟩)) hg hat); have n8_ := Aside0.mk (hb); have n9_ := Aside0.mk (ho); clear HO_7; clear HO_186009; clear HO_186010; clear HO_196009; clear HO_196010; clear BK185; clear BK195; clear HO200; clear HB; clear HO_9; have HO_7 := n0_; have HO_186009 := n1_; have HO_186010 := n2_; have HO_196009 := n3_; have HO_196010 := n4_; have BK185 := n5_; have BK195 := n6_; have HO200 := n7_; have HB := n8_; have HO203 := n9_; clear n0_ n1_ n2_ n3_ n4_ n5_ n6_ n7_ n8_ n9_; clear ho hb hg hat))
                  go_roundg kj28
                  case measure => have := HJ4.out; have := HK2.out; have := HJ28.out; omega
                  case rel => exact ⟨(y201), ((l0_10.length : Int)), (by first | rfl | (simp; done) | (simp [*]; done)), H', ⟨by have := HJ4.out; have := HK2.out; have := HJ28.out; omega⟩, ⟨by (with_reducible repeat (first | apply Kd.R_alloc | apply Kd.R_drewN | apply Kd.R_drew)); exact HO_7.out⟩, ⟨by (with_reducible repeat (first | apply Kd.N_alloc | apply Kd.N_drewN | apply Kd.N_drew)); exact Kd.N_mono HO203.out (fun _ hk => ⟨hk.1, ⟨hk.2.1, hk.2.2.1⟩⟩)⟩, ⟨by (with_reducible repeat (first | apply Kd.V_alloc | apply Kd.V_drewN | apply Kd.V_drew)); exact Kd.V_mono HO_186009.out (fun _ hk => ⟨hk.1.1, ⟨hk.1.2.1, ⟨hk.2, hk.1.2.2.1⟩⟩⟩)⟩, ⟨by (with_reducible repeat (first | apply Kd.V_alloc | apply Kd.V_drewN | apply Kd.V_drew)); exact Kd.V_mono HO_186010.out (fun _ hk => ⟨hk.1.1, ⟨hk.1.2.1, ⟨hk.2, hk.1.2.2.1⟩⟩⟩)⟩, ⟨by (with_reducible repeat (first | refine blk_drewN ?_ _ | refine blk_drew ?_ | refine blk_alloc ?_ _)); exact BK185.out⟩, ⟨by repeat (first | (with_reducible first | exact HB.out | apply below_alloc | apply pw_below_drewN | apply below_drew1 | refine below_set ?_ GE185.out | refine below_set ?_ GE195.out) | exact HB.out)⟩⟩
                 ·
                  rw [if_neg c46] at H
                  exact absurd H (by simp)
                ·
                 rw [if_neg c45] at H
                 exact absurd H (by simp)
               ·
                rw [if_neg c44] at H
                exact absurd H (by simp)
              ·
               rw [if_neg c43] at H
               have c43b0 : decide ((wrap64 ((l0_10.length : Int) - x10_2)) ≤ (wrap64 ((wrap64 (a1 - 20)) - (x196009_28.length : Int)))) = false := decide_eq_false c43
               clear c43
               by_cases c59 : 0 ≤ x10_2
               ·
                rw [if_pos c59] at H
                have c59b0 := eq_true c59
                have c59b1 : decide (0 ≤ x10_2) = true := decide_eq_true c59
                clear c59
                by_cases c60 : x10_2 ≤ (wrap64 (x10_2 + (wrap64 ((wrap64 (Int.tdiv (wrap64 ((wrap64 (a1 - 20)) - (x196009_28.length : Int))) 8)) * 8))))
                ·
                 rw [if_pos c60] at H
                 have c60b0 := eq_true c60
                 have c60b1 : decide (x10_2 ≤ (wrap64 (x10_2 + (wrap64 ((wrap64 (Int.tdiv (wrap64 ((wrap64 (a1 - 20)) - (x196009_28.length : Int))) 8)) * 8))))) = true := decide_eq_true c60
                 by_cases c61 : (wrap64 (x10_2 + (wrap64 ((wrap64 (Int.tdiv (wrap64 ((wrap64 (a1 - 20)) - (x196009_28.length : Int))) 8)) * 8)))) ≤ (l0_10.length : Int)
                 ·
                  rw [if_pos c61] at H
                  have c61b0 := eq_true c61
                  have c61b1 : decide ((wrap64 (x10_2 + (wrap64 ((wrap64 (Int.tdiv (wrap64 ((wrap64 (a1 - 20)) - (x196009_28.length : Int))) 8)) * 8)))) ≤ (l0_10.length : Int)) = true := decide_eq_true c61
                  obtain ⟨y204, hy204⟩ : ∃ y_ : List Int, y_ = ((l0_10.take ((wrap64 (x10_2 + (wrap64 ((wrap64 (Int.tdiv (wrap64 ((wrap64 (a1 - 20)) - (x196009_28.length : Int))) 8)) * 8)))) : Int).toNat).drop (x10_2 : Int).toNat) := ⟨_, rfl⟩
                  replace H : (if x9_2.length < 1759218604441 then (towroperef11_Split.l0 kj28 a1 t191 (x9_2 ++ [(⟨a0_0, a0_1, false, true, wrap64 (a0_4 + (wrap64 (Int.tdiv x10_2 8))), a0_5, a0_6, a0_7, a0_8, x196009_28, y204⟩ : S68)]) (wrap64 (x10_2 + (wrap64 ((wrap64 (Int.tdiv (wrap64 ((wrap64 (a1 - 20)) - (x196009_28.length : Int))) 8)) * 8)))) a0_0 a0_1 false a0_3 a0_4 a0_5 a0_6 a0_7 a0_8 l0_9 l0_10) else (none)) = some (r1, r2) := by first | (rw [hy204]; with_reducible exact H) | (have H2_ := (Option.bind_some _ _).symm.trans H; rw [hy204]; with_reducible exact H2_) | (have H2_ := (Option.bind_some _ _).symm.trans H; with_reducible exact H2_) | with_reducible exact H | (rw [hy204]; exact H) | exact H
                  have Ny204 := Aside0.mk hy204
                  clear hy204
                  by_cases c62 : x9_2.length < 1759218604441
                  ·
                   rw [if_pos c62] at H
                   have LMc62 := Aside0.mk c62
                   clear c62
                   obtain ⟨y209, hy209⟩ : ∃ y_ : List (S68), y_ = (x9_2 ++ [(⟨a0_0, a0_1, false, true, wrap64 (a0_4 + (wrap64 (Int.tdiv x10_2 8))), a0_5, a0_6, a0_7, a0_8, x196009_28, y204⟩ : S68)]) := ⟨_, rfl⟩
                   replace H : (towroperef11_Split.l0 kj28 a1 t191 y209 (wrap64 (x10_2 + (wrap64 ((wrap64 (Int.tdiv (wrap64 ((wrap64 (a1 - 20)) - (x196009_28.length : Int))) 8)) * 8)))) a0_0 a0_1 false a0_3 a0_4 a0_5 a0_6 a0_7 a0_8 l0_9 l0_10) = some (r1, r2) := by first | (rw [hy209]; with_reducible exact H) | (have H2_ := (Option.bind_some _ _).symm.trans H; rw [hy209]; with_reducible exact H2_) | (have H2_ := (Option.bind_some _ _).symm.trans H; with_reducible exact H2_) | with_reducible exact H | (rw [hy209]; exact H) | exact H
                   have Ny209 := Aside0.mk hy209
                   clear hy209
                   have H' := Aside0.mk H
                   clear H
                   have hnb63 := NB195_185.out
                   have hnc63 := NB185_195.out
                   have hcz64_0 : wc.cell? ⟨gb195, 0, none⟩ = some (.int .u8 a0_0) := (blk_cell BK195.out 0).trans rfl
                   have hcz64_1 : wc.cell? ⟨gb195, 1, none⟩ = some (.int .u16 a0_1) := (blk_cell BK195.out 1).trans rfl
                   have hcz64_2 : wc.cell? ⟨gb195, 2, none⟩ = some (.bool false) := (blk_cell BK195.out 2).trans rfl
                   have hcz64_3 : wc.cell? ⟨gb195, 3, none⟩ = some (.bool a0_3) := (blk_cell BK195.out 3).trans rfl
                   have hcz64_4 : wc.cell? ⟨gb195, 4, none⟩ = some (.int .i64 a0_4) := (blk_cell BK195.out 4).trans rfl
                   have hcz64_5 : wc.cell? ⟨gb195, 5, none⟩ = some (.int .u8 a0_5) := (blk_cell BK195.out 5).trans rfl
                   have hcz64_6 : wc.cell? ⟨gb195, 6, none⟩ = some (.int .u8 a0_6) := (blk_cell BK195.out 6).trans rfl
                   have hcz64_7 : wc.cell? ⟨gb195, 7, none⟩ = some (.int .u32 a0_7) := (blk_cell BK195.out 7).trans rfl
                   have hcz64_8 : wc.cell? ⟨gb195, 8, none⟩ = some (.int .u32 a0_8) := (blk_cell BK195.out 8).trans rfl
                   have hcz64_9 : wc.cell? ⟨gb195, 9, none⟩ = some (u196009) := (blk_cell BK195.out 9).trans rfl
                   have hcz64_10 : wc.cell? ⟨gb195, 10, none⟩ = some (.slice A0_10 l0_10.length c0_10) := (blk_cell BK195.out 10).trans rfl
                   have hfz64_0 := blk_frozen BK195.out 0
                   have hfz64_1 := blk_frozen BK195.out 1
                   have hfz64_2 := blk_frozen BK195.out 2
                   have hfz64_3 := blk_frozen BK195.out 3
                   have hfz64_4 := blk_frozen BK195.out 4
                   have hfz64_5 := blk_frozen BK195.out 5
                   have hfz64_6 := blk_frozen BK195.out 6
                   have hfz64_7 := blk_frozen BK195.out 7
                   have hfz64_8 := blk_frozen BK195.out 8
                   have hfz64_9 := blk_frozen BK195.out 9
                   have hfz64_10 := blk_frozen BK195.out 10
                   obtain ⟨Ao65, co65, eo65⟩ := Kd.V_slice HO_196009.out
                   subst eo65
                   have hcz66_0 : wc.cell? ⟨gb185, 0, none⟩ = some (.int .u8 a0_0) := (blk_cell BK185.out 0).trans rfl
                   have hcz66_1 : wc.cell? ⟨gb185, 1, none⟩ = some (.int .u16 a0_1) := (blk_cell BK185.out 1).trans rfl
                   have hcz66_2 : wc.cell? ⟨gb185, 2, none⟩ = some (.bool false) := (blk_cell BK185.out 2).trans rfl
                   have hcz66_3 : wc.cell? ⟨gb185, 3, none⟩ = some (.bool a0_3) := (blk_cell BK185.out 3).trans rfl
                   have hcz66_4 : wc.cell? ⟨gb185, 4, none⟩ = some (.int .i64 a0_4) := (blk_cell BK185.out 4).trans rfl
                   have hcz66_5 : wc.cell? ⟨gb185, 5, none⟩ = some (.int .u8 a0_5) := (blk_cell BK185.out 5).trans rfl
                   have hcz66_6 : wc.cell? ⟨gb185, 6, none⟩ = some (.int .u8 a0_6) := (blk_cell BK185.out 6).trans rfl
                   have hcz66_7 : wc.cell? ⟨gb185, 7, none⟩ = some (.int .u32 a0_7) := (blk_cell BK185.out 7).trans rfl
                   have hcz66_8 : wc.cell? ⟨gb185, 8, none⟩ = some (.int .u32 a0_8) := (blk_cell BK185.out 8).trans rfl
                   have hcz66_9 : wc.cell? ⟨gb185, 9, none⟩ = some (.slice A0_9 l0_9.length c0_9) := (blk_cell BK185.out 9).trans rfl
                   have hcz66_10 : wc.cell? ⟨gb185, 10, none⟩ = some (.slice A0_10 l0_10.length c0_10) := (blk_cell BK185.out 10).trans rfl
                   have hfz66_0 := blk_frozen BK185.out 0
                   have hfz66_1 := blk_frozen BK185.out 1
                   have hfz66_2 := blk_frozen BK185.out 2
                   have hfz66_3 := blk_frozen BK185.out 3
                   have hfz66_4 := blk_frozen BK185.out 4
                   have hfz66_5 := blk_frozen BK185.out 5
                   have hfz66_6 := blk_frozen BK185.out 6
                   have hfz66_7 := blk_frozen BK185.out 7
                   have hfz66_8 := blk_frozen BK185.out 8
                   have hfz66_9 := blk_frozen BK185.out 9
                   have hfz66_10 := blk_frozen BK185.out 10
                   go_wp2_with (first | ((with_reducible refine gate_store (t := 3) (p := 68) rfl ?_); refine store_event (t := 3) (p := 68) (v := ?vo_w67) (w1 := (wc.setCell ⟨gb195, 4, none⟩ (.int .i64 (wrap64 (a0_4 + (wrap64 (Int.tdiv x10_2 8))))))) ?hg ?ho ?hn ?hr ?_; (case ho => rfl); (case hg => rfl); (case hn => rfl); (case hr => first | (go_simp; done) | (go_simp; rfl)); intro w67 hw; have n0_ : Aside0 (Kd.R (Kd.int .u8) 5 w67 w.heap.size (fun k_ => (w.heap.size ≤ k_)) v193 t191) := ⟨(by rw [hw]; exact (by (with_reducible repeat (first | apply Kd.R_alloc | apply Kd.R_drewN | apply Kd.R_drew)); exact Kd.R_mono (Kd.R_far (p := ⟨gb195, 4, none⟩) (Kd.R_types HO_7.out BK195.out (by decide)) (fun _ hk => hk.2) (.int .i64 (wrap64 (a0_4 + (wrap64 (Int.tdiv x10_2 8)))))) (fun _ hk => hk.1)))⟩; have n1_ : Aside0 (Kd.N k68 68 w67 w.heap.size (fun k_ => ((P0_9_ k_ ∨ P0_10_ k_) ∨ w.heap.size ≤ k_) ∧ Triv v193 k_ ∧ k_ ≠ gb185 ∧ k_ ≠ gb195) u9 x9_2) := ⟨(by rw [hw]; exact (by (with_reducible repeat (first | apply Kd.N_alloc | apply Kd.N_drewN | apply Kd.N_drew)); exact Kd.N_mono (Kd.N_far (p := ⟨gb195, 4, none⟩) (Kd.N_mono HO_9.out (fun k_ hk => (⟨hk, hk.2.2.2⟩ : _ ∧ k_ ≠ gb195))) (fun _ hk => hk.2) (.int .i64 (wrap64 (a0_4 + (wrap64 (Int.tdiv x10_2 8)))))) (fun _ hk => ⟨hk.1.1, ⟨hk.1.2.1, ⟨hk.1.2.2.1, hk.1.2.2.2⟩⟩⟩)))⟩; have n2_ : Aside0 (Kd.V (Kd.int .u8) 5 w67 w.heap.size (fun k_ => ((P0_9_ k_ ∨ P0_10_ k_) ∨ w.heap.size ≤ k_) ∧ Triv v193 k_ ∧ some k_ ≠ (u9 : Value).ownBlock ∧ k_ ≠ gb185 ∧ k_ ≠ gb195) (.slice A0_9 l0_9.length c0_9) l0_9) := ⟨(by rw [hw]; exact (by (with_reducible repeat (first | apply Kd.V_alloc | apply Kd.V_drewN | apply Kd.V_drew)); exact Kd.V_mono (Kd.V_far (p := ⟨gb195, 4, none⟩) (Kd.V_mono HO_186009.out (fun k_ hk => (⟨hk, hk.2.2.2.2⟩ : _ ∧ k_ ≠ gb195))) (fun _ hk => hk.2) (.int .i64 (wrap64 (a0_4 + (wrap64 (Int.tdiv x10_2 8)))))) (fun _ hk => ⟨hk.1.1, ⟨hk.1.2.1, ⟨hk.1.2.2.1, ⟨hk.1.2.2.2.1, hk.1.2.2.2.2⟩⟩⟩⟩)))⟩; have n3_ : Aside0 (Kd.V (Kd.int .u8) 5 w67 w.heap.size (fun k_ => ((P0_9_ k_ ∨ P0_10_ k_) ∨ w.heap.size ≤ k_) ∧ Triv v193 k_ ∧ some k_ ≠ (u9 : Value).ownBlock ∧ k_ ≠ gb185 ∧ k_ ≠ gb195) (.slice A0_10 l0_10.length c0_10) l0_10) := ⟨(by rw [hw]; exact (by (with_reducible repeat (first | apply Kd.V_alloc | apply Kd.V_drewN | apply Kd.V_drew)); exact Kd.V_mono (Kd.V_far (p := ⟨gb195, 4, none⟩) (Kd.V_mono HO_186010.out (fun k_ hk => (⟨hk, hk.2.2.2.2⟩ : _ ∧ k_ ≠ gb195))) (fun _ hk => hk.2) (.int .i64 (wrap64 (a0_4 + (wrap64 (Int.tdiv x10_2 8)))))) (fun _ hk => ⟨hk.1.1, ⟨hk.1.2.1, ⟨hk.1.2.2.1, ⟨hk.1.2.2.2.1, hk.1.2.2.2.2⟩⟩⟩⟩)))⟩; have n4_ : Aside0 (Kd.V (Kd.int .u8) 5 w67 w.heap.size (fun k_ => ((P0_9_ k_ ∨ P0_10_ k_) ∨ w.heap.size ≤ k_) ∧ Triv v193 k_ ∧ some k_ ≠ (u9 : Value).ownBlock ∧ k_ ≠ gb185 ∧ k_ ≠ gb195) (.slice Ao65 x196009_28.length co65) x196009_28) := ⟨(by rw [hw]; exact (by (with_reducible repeat (first | apply Kd.V_alloc | apply Kd.V_drewN | apply Kd.V_drew)); exact Kd.V_mono (Kd.V_far (p := ⟨gb195, 4, none⟩) (Kd.V_mono HO_196009.out (fun k_ hk => (⟨hk, hk.2.2.2.2⟩ : _ ∧ k_ ≠ gb195))) (fun _ hk => hk.2) (.int .i64 (wrap64 (a0_4 + (wrap64 (Int.tdiv x10_2 8)))))) (fun _ hk => ⟨hk.1.1, ⟨hk.1.2.1, ⟨hk.1.2.2.1, ⟨hk.1.2.2.2.1, hk.1.2.2.2.2⟩⟩⟩⟩)))⟩; have n5_ : Aside0 (Kd.V (Kd.int .u8) 5 w67 w.heap.size (fun k_ => ((P0_9_ k_ ∨ P0_10_ k_) ∨ w.heap.size ≤ k_) ∧ Triv v193 k_ ∧ some k_ ≠ (u9 : Value).ownBlock ∧ k_ ≠ gb185 ∧ k_ ≠ gb195) (.slice A0_10 l0_10.length c0_10) l0_10) := ⟨(by rw [hw]; exact (by (with_reducible repeat (first | apply Kd.V_alloc | apply Kd.V_drewN | apply Kd.V_drew)); exact Kd.V_mono (Kd.V_far (p := ⟨gb195, 4, none⟩) (Kd.V_mono HO_196010.out (fun k_ hk => (⟨hk, hk.2.2.2.2⟩ : _ ∧ k_ ≠ gb195))) (fun _ hk => hk.2) (.int .i64 (wrap64 (a0_4 + (wrap64 (Int.tdiv x10_2 8)))))) (fun _ hk => ⟨hk.1.1, ⟨hk.1.2.1, ⟨hk.1.2.2.1, ⟨hk.1.2.2.2.1, hk.1.2.2.2.2⟩⟩⟩⟩)))⟩; have n6_ : Aside0 (w67.heap[gb185]? = some (.cells #[.int .u8 a0_0, .int .u16 a0_1, .bool false, .bool a0_3, .int .i64 a0_4, .int .u8 a0_5, .int .u8 a0_6, .int .u32 a0_7, .int .u32 a0_8, .slice A0_9 l0_9.length c0_9, .slice A0_10 l0_10.length c0_10] 68 (0, 0))) := ⟨(by rw [hw]; exact (by (with_reducible repeat (first | refine blk_drewN ?_ _ | refine blk_drew ?_ | refine blk_alloc ?_ _)); refine blk_far ?_ NB185_195.out _; (with_reducible repeat (first | refine blk_drewN ?_ _ | refine blk_drew ?_ | refine blk_alloc ?_ _)); exact BK185.out))⟩; have n7_ : Aside0 (w67.heap[gb195]? = some (.cells #[.int .u8 a0_0, .int .u16 a0_1, .bool false, .bool a0_3, .int .i64 (wrap64 (a0_4 + (wrap64 (Int.tdiv x10_2 8)))), .int .u8 a0_5, .int .u8 a0_6, .int .u32 a0_7, .int .u32 a0_8, .slice Ao65 x196009_28.length co65, .slice A0_10 l0_10.length c0_10] 68 (0, 0))) := ⟨(by rw [hw]; exact (by (with_reducible repeat (first | refine blk_drewN ?_ _ | refine blk_drew ?_ | refine blk_alloc ?_ _)); refine blk_put (cs := #[.int .u8 a0_0, .int .u16 a0_1, .bool false, .bool a0_3, .int .i64 a0_4, .int .u8 a0_5, .int .u8 a0_6, .int .u32 a0_7, .int .u32 a0_8, .slice Ao65 x196009_28.length co65, .slice A0_10 l0_10.length c0_10]) ?_ 4 _ rfl; (with_reducible repeat (first | refine blk_drewN ?_ _ | refine blk_drew ?_ | refine blk_alloc ?_ _)); exact BK195.out))⟩; have n8_ : Aside0 (Below w.heap.size w w67) := ⟨(by rw [hw]; exact (by repeat (first | (with_reducible first | exact HB.out | apply below_alloc | apply pw_below_drewN | apply below_drew1 | refine below_set ?_ GE185.out | refine below_set ?_ GE195.out) | exact HB.out)))⟩; clear hw; clear HO_7; clear HO_9; clear HO_186009; clear HO_186010; clear HO_196009; clear HO_196010; clear BK185; clear BK195; clear HB; have HO_7 := n0_; have HO_9 := n1_; have HO_186009 := n2_; have HO_186010 := n3_; have HO_196009 := n4_; have HO_196010 := n5_; have BK185 := n6_; have BK195 := n7_; have HB := n8_; clear n0_ n1_ n2_ n3_ n4_ n5_ n6_ n7_ n8_; have hcz68_0 : w67.cell? ⟨gb195, 0, none⟩ = some (.int .u8 a0_0) := (blk_cell BK195.out 0).trans rfl; have hcz68_1 : w67.cell? ⟨gb195, 1, none⟩ = some (.int .u16 a0_1) := (blk_cell BK195.out 1).trans rfl; have hcz68_2 : w67.cell? ⟨gb195, 2, none⟩ = some (.bool false) := (blk_cell BK195.out 2).trans rfl; have hcz68_3 : w67.cell? ⟨gb195, 3, none⟩ = some (.bool a0_3) := (blk_cell BK195.out 3).trans rfl; have hcz68_4 : w67.cell? ⟨gb195, 4, none⟩ = some (.int .i64 (wrap64 (a0_4 + (wrap64 (Int.tdiv x10_2 8))))) := (blk_cell BK195.out 4).trans rfl; have hcz68_5 : w67.cell? ⟨gb195, 5, none⟩ = some (.int .u8 a0_5) := (blk_cell BK195.out 5).trans rfl; have hcz68_6 : w67.cell? ⟨gb195, 6, none⟩ = some (.int .u8 a0_6) := (blk_cell BK195.out 6).trans rfl; have hcz68_7 : w67.cell? ⟨gb195, 7, none⟩ = some (.int .u32 a0_7) := (blk_cell BK195.out 7).trans rfl; have hcz68_8 : w67.cell? ⟨gb195, 8, none⟩ = some (.int .u32 a0_8) := (blk_cell BK195.out 8).trans rfl; have hcz68_9 : w67.cell? ⟨gb195, 9, none⟩ = some (.slice Ao65 x196009_28.length co65) := (blk_cell BK195.out 9).trans rfl; have hcz68_10 : w67.cell? ⟨gb195, 10, none⟩ = some (.slice A0_10 l0_10.length c0_10) := (blk_cell BK195.out 10).trans rfl; have hfz68_0 := blk_frozen BK195.out 0; have hfz68_1 := blk_frozen BK195.out 1; have hfz68_2 := blk_frozen BK195.out 2; have hfz68_3 := blk_frozen BK195.out 3; have hfz68_4 := blk_frozen BK195.out 4; have hfz68_5 := blk_frozen BK195.out 5; have hfz68_6 := blk_frozen BK195.out 6; have hfz68_7 := blk_frozen BK195.out 7; have hfz68_8 := blk_frozen BK195.out 8; have hfz68_9 := blk_frozen BK195.out 9; have hfz68_10 := blk_frozen BK195.out 10; have hcz69_0 : w67.cell? ⟨gb185, 0, none⟩ = some (.int .u8 a0_0) := (blk_cell BK185.out 0).trans rfl; have hcz69_1 : w67.cell? ⟨gb185, 1, none⟩ = some (.int .u16 a0_1) := (blk_cell BK185.out 1).trans rfl; have hcz69_2 : w67.cell? ⟨gb185, 2, none⟩ = some (.bool false) := (blk_cell BK185.out 2).trans rfl; have hcz69_3 : w67.cell? ⟨gb185, 3, none⟩ = some (.bool a0_3) := (blk_cell BK185.out 3).trans rfl; have hcz69_4 : w67.cell? ⟨gb185, 4, none⟩ = some (.int .i64 a0_4) := (blk_cell BK185.out 4).trans rfl; have hcz69_5 : w67.cell? ⟨gb185, 5, none⟩ = some (.int .u8 a0_5) := (blk_cell BK185.out 5).trans rfl; have hcz69_6 : w67.cell? ⟨gb185, 6, none⟩ = some (.int .u8 a0_6) := (blk_cell BK185.out 6).trans rfl; have hcz69_7 : w67.cell? ⟨gb185, 7, none⟩ = some (.int .u32 a0_7) := (blk_cell BK185.out 7).trans rfl; have hcz69_8 : w67.cell? ⟨gb185, 8, none⟩ = some (.int .u32 a0_8) := (blk_cell BK185.out 8).trans rfl; have hcz69_9 : w67.cell? ⟨gb185, 9, none⟩ = some (.slice A0_9 l0_9.length c0_9) := (blk_cell BK185.out 9).trans rfl; have hcz69_10 : w67.cell? ⟨gb185, 10, none⟩ = some (.slice A0_10 l0_10.length c0_10) := (blk_cell BK185.out 10).trans rfl; have hfz69_0 := blk_frozen BK185.out 0; have hfz69_1 := blk_frozen BK185.out 1; have hfz69_2 := blk_frozen BK185.out 2; have hfz69_3 := blk_frozen BK185.out 3; have hfz69_4 := blk_frozen BK185.out 4; have hfz69_5 := blk_frozen BK185.out 5; have hfz69_6 := blk_frozen BK185.out 6; have hfz69_7 := blk_frozen BK185.out 7; have hfz69_8 := blk_frozen BK185.out 8; have hfz69_9 := blk_frozen BK185.out 9; have hfz69_10 := blk_frozen BK185.out 10; have q70 : ((wrap64 (x10_2 + (wrap64 ((wrap64 (Int.tdiv (wrap64 ((wrap64 (a1 - 20)) - (x196009_28.length : Int))) 8)) * 8)))) : Int) ≤ ((l0_10.length : Int) : Int) := of_decide_eq_true (by first | (with_reducible assumption) | assumption); obtain ⟨i070, hi070, _, hsz70, _⟩ := info_parts info5; have hroom70 : l0_10.length ≤ c0_10 := (Kd.V_reads' HO_186010.out).2.1; have hC70 : Kd.F (Kd.int .u8) _ _ A0_10 l0_10.length l0_10 := (Kd.V_at (base := w.heap.size) HO_186010.out).2.2; have ql70 : (x10_2 : Int) ≤ ((wrap64 (x10_2 + (wrap64 ((wrap64 (Int.tdiv (wrap64 ((wrap64 (a1 - 20)) - (x196009_28.length : Int))) 8)) * 8)))) : Int) := of_decide_eq_true (by first | (with_reducible assumption) | assumption); have q070 : (0 : Int) ≤ (x10_2 : Int) := of_decide_eq_true (by first | (with_reducible assumption) | assumption); have hcut70 := cut_mid (P := Try.prog) 23 5 .i64 .i64 Try.underlying23 hi070 1 hsz70 A0_10 l0_10.length c0_10 x10_2 (wrap64 (x10_2 + (wrap64 ((wrap64 (Int.tdiv (wrap64 ((wrap64 (a1 - 20)) - (x196009_28.length : Int))) 8)) * 8)))) q070 ql70 q70 hroom70; have hr70 := Kd.F_mid (lo := (x10_2 : Int).toNat) (hi := ((wrap64 (x10_2 + (wrap64 ((wrap64 (Int.tdiv (wrap64 ((wrap64 (a1 - 20)) - (x196009_28.length : Int))) 8)) * 8)))) : Int).toNat) (c := c0_10) hC70 (by omega) (by omega) hroom70; obtain ⟨A70, hA70⟩ : ∃ A1, A1 = (if c0_10 = (x10_2 : Int).toNat then A0_10 else (A0_10 : Option Addr).map (·.add ((x10_2 : Int).toNat * 1))) := ⟨_, rfl⟩; obtain ⟨c70, hc70⟩ : ∃ c1, c1 = c0_10 - (x10_2 : Int).toNat := ⟨_, rfl⟩; have hy70 : y204.length = ((wrap64 (x10_2 + (wrap64 ((wrap64 (Int.tdiv (wrap64 ((wrap64 (a1 - 20)) - (x196009_28.length : Int))) 8)) * 8)))) : Int).toNat - (x10_2 : Int).toNat := (by rw [Ny204.out, List.length_drop, List.length_take] <;> omega); rw [show ((l0_10).take ((wrap64 (x10_2 + (wrap64 ((wrap64 (Int.tdiv (wrap64 ((wrap64 (a1 - 20)) - (x196009_28.length : Int))) 8)) * 8)))) : Int).toNat).drop (x10_2 : Int).toNat = y204 from Ny204.out.symm] at hr70; replace hr70 : Kd.F (Kd.int .u8) _ _ A70 y204.length y204 := (by rw [hA70]; exact hr70); rw [← hy70, ← hA70, ← hc70] at hcut70; have HO208 := Aside0.mk (show Kd.V (Kd.int .u8) 5 _ w.heap.size _ (.slice A70 y204.length c70) y204 from Kd.V_mk (by rw [hy70, hc70]; exact Nat.sub_le_sub_right (Nat.le_trans (by omega) hroom70) _) hr70); have HC208 := Aside0.mk (show y204.length ≤ c70 from by rw [hy70, hc70]; exact Nat.sub_le_sub_right (Nat.le_trans (by omega) hroom70) _); clear hr70 hC70 hroom70 hi070 hsz70 hc70; have KY70 := Aside0.mk hy70; have KA70 := Aside0.mk hA70; clear hy70 hA70; replace q70 := eq_true q70) | ((with_reducible refine gate_store (t := 23) (p := 93) rfl ?_); refine store_event (t := 23) (p := 93) (v := ?vo_w71) (w1 := (w67.setCell ⟨gb195, 10, none⟩ (.slice A70 y204.length c70))) ?hg ?ho ?hn ?hr ?_; (case ho => rfl); (case hg => rfl); (case hn => rfl); (case hr => first | (go_simp; done) | (go_simp; rfl)); intro w71 hw; have n0_ : Aside0 (Kd.R (Kd.int .u8) 5 w71 w.heap.size (fun k_ => (w.heap.size ≤ k_)) v193 t191) := ⟨(by rw [hw]; exact (by (with_reducible repeat (first | apply Kd.R_alloc | apply Kd.R_drewN | apply Kd.R_drew)); exact Kd.R_mono (Kd.R_far (p := ⟨gb195, 10, none⟩) (Kd.R_types HO_7.out BK195.out (by decide)) (fun _ hk => hk.2) (.slice A70 y204.length c70)) (fun _ hk => hk.1)))⟩; have n1_ : Aside0 (Kd.N k68 68 w71 w.heap.size (fun k_ => ((P0_9_ k_ ∨ P0_10_ k_) ∨ w.heap.size ≤ k_) ∧ Triv v193 k_ ∧ k_ ≠ gb185 ∧ k_ ≠ gb195) u9 x9_2) := ⟨(by rw [hw]; exact (by (with_reducible repeat (first | apply Kd.N_alloc | apply Kd.N_drewN | apply Kd.N_drew)); exact Kd.N_mono (Kd.N_far (p := ⟨gb195, 10, none⟩) (Kd.N_mono HO_9.out (fun k_ hk => (⟨hk, hk.2.2.2⟩ : _ ∧ k_ ≠ gb195))) (fun _ hk => hk.2) (.slice A70 y204.length c70)) (fun _ hk => ⟨hk.1.1, ⟨hk.1.2.1, ⟨hk.1.2.2.1, hk.1.2.2.2⟩⟩⟩)))⟩; have n2_ : Aside0 (Kd.V (Kd.int .u8) 5 w71 w.heap.size (fun k_ => ((P0_9_ k_ ∨ P0_10_ k_) ∨ w.heap.size ≤ k_) ∧ Triv v193 k_ ∧ some k_ ≠ (u9 : Value).ownBlock ∧ k_ ≠ gb185 ∧ k_ ≠ gb195) (.slice A0_9 l0_9.length c0_9) l0_9) := ⟨(by rw [hw]; exact (by (with_reducible repeat (first | apply Kd.V_alloc | apply Kd.V_drewN | apply Kd.V_drew)); exact Kd.V_mono (Kd.V_far (p := ⟨gb195, 10, none⟩) (Kd.V_mono HO_186009.out (fun k_ hk => (⟨hk, hk.2.2.2.2⟩ : _ ∧ k_ ≠ gb195))) (fun _ hk => hk.2) (.slice A70 y204.length c70)) (fun _ hk => ⟨hk.1.1, ⟨hk.1.2.1, ⟨hk.1.2.2.1, ⟨hk.1.2.2.2.1, hk.1.2.2.2.2⟩⟩⟩⟩)))⟩; have n3_ : Aside0 (Kd.V (Kd.int .u8) 5 w71 w.heap.size (fun k_ => ((P0_9_ k_ ∨ P0_10_ k_) ∨ w.heap.size ≤ k_) ∧ Triv v193 k_ ∧ some k_ ≠ (u9 : Value).ownBlock ∧ k_ ≠ gb185 ∧ k_ ≠ gb195) (.slice A0_10 l0_10.length c0_10) l0_10) := ⟨(by rw [hw]; exact (by (with_reducible repeat (first | apply Kd.V_alloc | apply Kd.V_drewN | apply Kd.V_drew)); exact Kd.V_mono (Kd.V_far (p := ⟨gb195, 10, none⟩) (Kd.V_mono HO_186010.out (fun k_ hk => (⟨hk, hk.2.2.2.2⟩ : _ ∧ k_ ≠ gb195))) (fun _ hk => hk.2) (.slice A70 y204.length c70)) (fun _ hk => ⟨hk.1.1, ⟨hk.1.2.1, ⟨hk.1.2.2.1, ⟨hk.1.2.2.2.1, hk.1.2.2.2.2⟩⟩⟩⟩)))⟩; have n4_ : Aside0 (Kd.V (Kd.int .u8) 5 w71 w.heap.size (fun k_ => ((P0_9_ k_ ∨ P0_10_ k_) ∨ w.heap.size ≤ k_) ∧ Triv v193 k_ ∧ some k_ ≠ (u9 : Value).ownBlock ∧ k_ ≠ gb185 ∧ k_ ≠ gb195) (.slice Ao65 x196009_28.length co65) x196009_28) := ⟨(by rw [hw]; exact (by (with_reducible repeat (first | apply Kd.V_alloc | apply Kd.V_drewN | apply Kd.V_drew)); exact Kd.V_mono (Kd.V_far (p := ⟨gb195, 10, none⟩) (Kd.V_mono HO_196009.out (fun k_ hk => (⟨hk, hk.2.2.2.2⟩ : _ ∧ k_ ≠ gb195))) (fun _ hk => hk.2) (.slice A70 y204.length c70)) (fun _ hk => ⟨hk.1.1, ⟨hk.1.2.1, ⟨hk.1.2.2.1, ⟨hk.1.2.2.2.1, hk.1.2.2.2.2⟩⟩⟩⟩)))⟩; have n5_ : Aside0 (Kd.V (Kd.int .u8) 5 w71 w.heap.size (fun k_ => ((P0_9_ k_ ∨ P0_10_ k_) ∨ w.heap.size ≤ k_) ∧ Triv v193 k_ ∧ some k_ ≠ (u9 : Value).ownBlock ∧ k_ ≠ gb185 ∧ k_ ≠ gb195) (.slice A0_10 l0_10.length c0_10) l0_10) := ⟨(by rw [hw]; exact (by (with_reducible repeat (first | apply Kd.V_alloc | apply Kd.V_drewN | apply Kd.V_drew)); exact Kd.V_mono (Kd.V_far (p := ⟨gb195, 10, none⟩) (Kd.V_mono HO_196010.out (fun k_ hk => (⟨hk, hk.2.2.2.2⟩ : _ ∧ k_ ≠ gb195))) (fun _ hk => hk.2) (.slice A70 y204.length c70)) (fun _ hk => ⟨hk.1.1, ⟨hk.1.2.1, ⟨hk.1.2.2.1, ⟨hk.1.2.2.2.1, hk.1.2.2.2.2⟩⟩⟩⟩)))⟩; have n6_ : Aside0 (Kd.V (Kd.int .u8) 5 w71 w.heap.size (fun k_ => ((P0_9_ k_ ∨ P0_10_ k_) ∨ w.heap.size ≤ k_) ∧ Triv v193 k_ ∧ some k_ ≠ (u9 : Value).ownBlock ∧ k_ ≠ gb185 ∧ k_ ≠ gb195) (.slice A70 y204.length c70) y204) := ⟨(by rw [hw]; exact (by (with_reducible repeat (first | apply Kd.V_alloc | apply Kd.V_drewN | apply Kd.V_drew)); exact Kd.V_mono (Kd.V_far (p := ⟨gb195, 10, none⟩) (Kd.V_mono HO208.out (fun k_ hk => (⟨hk, hk.2.2.2.2⟩ : _ ∧ k_ ≠ gb195))) (fun _ hk => hk.2) (.slice A70 y204.length c70)) (fun _ hk => ⟨hk.1.1, ⟨hk.1.2.1, ⟨hk.1.2.2.1, ⟨hk.1.2.2.2.1, hk.1.2.2.2.2⟩⟩⟩⟩)))⟩; have n7_ : Aside0 (w71.heap[gb185]? = some (.cells #[.int .u8 a0_0, .int .u16 a0_1, .bool false, .bool a0_3, .int .i64 a0_4, .int .u8 a0_5, .int .u8 a0_6, .int .u32 a0_7, .int .u32 a0_8, .slice A0_9 l0_9.length c0_9, .slice A0_10 l0_10.length c0_10] 68 (0, 0))) := ⟨(by rw [hw]; exact (by (with_reducible repeat (first | refine blk_drewN ?_ _ | refine blk_drew ?_ | refine blk_alloc ?_ _)); refine blk_far ?_ NB185_195.out _; (with_reducible repeat (first | refine blk_drewN ?_ _ | refine blk_drew ?_ | refine blk_alloc ?_ _)); exact BK185.out))⟩; have n8_ : Aside0 (w71.heap[gb195]? = some (.cells #[.int .u8 a0_0, .int .u16 a0_1, .bool false, .bool a0_3, .int .i64 (wrap64 (a0_4 + (wrap64 (Int.tdiv x10_2 8)))), .int .u8 a0_5, .int .u8 a0_6, .int .u32 a0_7, .int .u32 a0_8, .slice Ao65 x196009_28.length co65, .slice A70 y204.length c70] 68 (0, 0))) := ⟨(by rw [hw]; exact (by (with_reducible repeat (first | refine blk_drewN ?_ _ | refine blk_drew ?_ | refine blk_alloc ?_ _)); refine blk_put (cs := #[.int .u8 a0_0, .int .u16 a0_1, .bool false, .bool a0_3, .int .i64 (wrap64 (a0_4 + (wrap64 (Int.tdiv x10_2 8)))), .int .u8 a0_5, .int .u8 a0_6, .int .u32 a0_7, .int .u32 a0_8, .slice Ao65 x196009_28.length co65, .slice A0_10 l0_10.length c0_10]) ?_ 10 _ rfl; (with_reducible repeat (first | refine blk_drewN ?_ _ | refine blk_drew ?_ | refine blk_alloc ?_ _)); exact BK195.out))⟩; have n9_ : Aside0 (Below w.heap.size w w71) := ⟨(by rw [hw]; exact (by repeat (first | (with_reducible first | exact HB.out | apply below_alloc | apply pw_below_drewN | apply below_drew1 | refine below_set ?_ GE185.out | refine below_set ?_ GE195.out) | exact HB.out)))⟩; clear hw; clear HO_7; clear HO_9; clear HO_186009; clear HO_186010; clear HO_196009; clear HO_196010; clear HO208; clear BK185; clear BK195; clear HB; have HO_7 := n0_; have HO_9 := n1_; have HO_186009 := n2_; have HO_186010 := n3_; have HO_196009 := n4_; have HO_196010 := n5_; have HO208 := n6_; have BK185 := n7_; have BK195 := n8_; have HB := n9_; clear n0_ n1_ n2_ n3_ n4_ n5_ n6_ n7_ n8_ n9_; have hcz72_0 : w71.cell? ⟨gb195, 0, none⟩ = some (.int .u8 a0_0) := (blk_cell BK195.out 0).trans rfl; have hcz72_1 : w71.cell? ⟨gb195, 1, none⟩ = some (.int .u16 a0_1) := (blk_cell BK195.out 1).trans rfl; have hcz72_2 : w71.cell? ⟨gb195, 2, none⟩ = some (.bool false) := (blk_cell BK195.out 2).trans rfl; have hcz72_3 : w71.cell? ⟨gb195, 3, none⟩ = some (.bool a0_3) := (blk_cell BK195.out 3).trans rfl; have hcz72_4 : w71.cell? ⟨gb195, 4, none⟩ = some (.int .i64 (wrap64 (a0_4 + (wrap64 (Int.tdiv x10_2 8))))) := (blk_cell BK195.out 4).trans rfl; have hcz72_5 : w71.cell? ⟨gb195, 5, none⟩ = some (.int .u8 a0_5) := (blk_cell BK195.out 5).trans rfl; have hcz72_6 : w71.cell? ⟨gb195, 6, none⟩ = some (.int .u8 a0_6) := (blk_cell BK195.out 6).trans rfl; have hcz72_7 : w71.cell? ⟨gb195, 7, none⟩ = some (.int .u32 a0_7) := (blk_cell BK195.out 7).trans rfl; have hcz72_8 : w71.cell? ⟨gb195, 8, none⟩ = some (.int .u32 a0_8) := (blk_cell BK195.out 8).trans rfl; have hcz72_9 : w71.cell? ⟨gb195, 9, none⟩ = some (.slice Ao65 x196009_28.length co65) := (blk_cell BK195.out 9).trans rfl; have hcz72_10 : w71.cell? ⟨gb195, 10, none⟩ = some (.slice A70 y204.length c70) := (blk_cell BK195.out 10).trans rfl; have hfz72_0 := blk_frozen BK195.out 0; have hfz72_1 := blk_frozen BK195.out 1; have hfz72_2 := blk_frozen BK195.out 2; have hfz72_3 := blk_frozen BK195.out 3; have hfz72_4 := blk_frozen BK195.out 4; have hfz72_5 := blk_frozen BK195.out 5; have hfz72_6 := blk_frozen BK195.out 6; have hfz72_7 := blk_frozen BK195.out 7; have hfz72_8 := blk_frozen BK195.out 8; have hfz72_9 := blk_frozen BK195.out 9; have hfz72_10 := blk_frozen BK195.out 10) | ((with_reducible refine gate_store (t := 4) (p := 94) rfl ?_); refine store_event (t := 4) (p := 94) (v := ?vo_w73) (w1 := (w71.setCell ⟨gb195, 3, none⟩ (.bool true))) ?hg ?ho ?hn ?hr ?_; (case ho => rfl); (case hg => rfl); (case hn => rfl); (case hr => first | (go_simp; done) | (go_simp; rfl)); intro w73 hw; have n0_ : Aside0 (Kd.R (Kd.int .u8) 5 w73 w.heap.size (fun k_ => (w.heap.size ≤ k_)) v193 t191) := ⟨(by rw [hw]; exact (by (with_reducible repeat (first | apply Kd.R_alloc | apply Kd.R_drewN | apply Kd.R_drew)); exact Kd.R_mono (Kd.R_far (p := ⟨gb195, 3, none⟩) (Kd.R_types HO_7.out BK195.out (by decide)) (fun _ hk => hk.2) (.bool true)) (fun _ hk => hk.1)))⟩; have n1_ : Aside0 (Kd.N k68 68 w73 w.heap.size (fun k_ => ((P0_9_ k_ ∨ P0_10_ k_) ∨ w.heap.size ≤ k_) ∧ Triv v193 k_ ∧ k_ ≠ gb185 ∧ k_ ≠ gb195) u9 x9_2) := ⟨(by rw [hw]; exact (by (with_reducible repeat (first | apply Kd.N_alloc | apply Kd.N_drewN | apply Kd.N_drew)); exact Kd.N_mono (Kd.N_far (p := ⟨gb195, 3, none⟩) (Kd.N_mono HO_9.out (fun k_ hk => (⟨hk, hk.2.2.2⟩ : _ ∧ k_ ≠ gb195))) (fun _ hk => hk.2) (.bool true)) (fun _ hk => ⟨hk.1.1, ⟨hk.1.2.1, ⟨hk.1.2.2.1, hk.1.2.2.2⟩⟩⟩)))⟩; have n2_ : Aside0 (Kd.V (Kd.int .u8) 5 w73 w.heap.size (fun k_ => ((P0_9_ k_ ∨ P0_10_ k_) ∨ w.heap.size ≤ k_) ∧ Triv v193 k_ ∧ some k_ ≠ (u9 : Value).ownBlock ∧ k_ ≠ gb185 ∧ k_ ≠ gb195) (.slice A0_9 l0_9.length c0_9) l0_9) := ⟨(by rw [hw]; exact (by (with_reducible repeat (first | apply Kd.V_alloc | apply Kd.V_drewN | apply Kd.V_drew)); exact Kd.V_mono (Kd.V_far (p := ⟨gb195, 3, none⟩) (Kd.V_mono HO_186009.out (fun k_ hk => (⟨hk, hk.2.2.2.2⟩ : _ ∧ k_ ≠ gb195))) (fun _ hk => hk.2) (.bool true)) (fun _ hk => ⟨hk.1.1, ⟨hk.1.2.1, ⟨hk.1.2.2.1, ⟨hk.1.2.2.2.1, hk.1.2.2.2.2⟩⟩⟩⟩)))⟩; have n3_ : Aside0 (Kd.V (Kd.int .u8) 5 w73 w.heap.size (fun k_ => ((P0_9_ k_ ∨ P0_10_ k_) ∨ w.heap.size ≤ k_) ∧ Triv v193 k_ ∧ some k_ ≠ (u9 : Value).ownBlock ∧ k_ ≠ gb185 ∧ k_ ≠ gb195) (.slice A0_10 l0_10.length c0_10) l0_10) := ⟨(by rw [hw]; exact (by (with_reducible repeat (first | apply Kd.V_alloc | apply Kd.V_drewN | apply Kd.V_drew)); exact Kd.V_mono (Kd.V_far (p := ⟨gb195, 3, none⟩) (Kd.V_mono HO_186010.out (fun k_ hk => (⟨hk, hk.2.2.2.2⟩ : _ ∧ k_ ≠ gb195))) (fun _ hk => hk.2) (.bool true)) (fun _ hk => ⟨hk.1.1, ⟨hk.1.2.1, ⟨hk.1.2.2.1, ⟨hk.1.2.2.2.1, hk.1.2.2.2.2⟩⟩⟩⟩)))⟩; have n4_ : Aside0 (Kd.V (Kd.int .u8) 5 w73 w.heap.size (fun k_ => ((P0_9_ k_ ∨ P0_10_ k_) ∨ w.heap.size ≤ k_) ∧ Triv v193 k_ ∧ some k_ ≠ (u9 : Value).ownBlock ∧ k_ ≠ gb185 ∧ k_ ≠ gb195) (.slice Ao65 x196009_28.length co65) x196009_28) := ⟨(by rw [hw]; exact (by (with_reducible repeat (first | apply Kd.V_alloc | apply Kd.V_drewN | apply Kd.V_drew)); exact Kd.V_mono (Kd.V_far (p := ⟨gb195, 3, none⟩) (Kd.V_mono HO_196009.out (fun k_ hk => (⟨hk, hk.2.2.2.2⟩ : _ ∧ k_ ≠ gb195))) (fun _ hk => hk.2) (.bool true)) (fun _ hk => ⟨hk.1.1, ⟨hk.1.2.1, ⟨hk.1.2.2.1, ⟨hk.1.2.2.2.1, hk.1.2.2.2.2⟩⟩⟩⟩)))⟩; have n5_ : Aside0 (Kd.V (Kd.int .u8) 5 w73 w.heap.size (fun k_ => ((P0_9_ k_ ∨ P0_10_ k_) ∨ w.heap.size ≤ k_) ∧ Triv v193 k_ ∧ some k_ ≠ (u9 : Value).ownBlock ∧ k_ ≠ gb185 ∧ k_ ≠ gb195) (.slice A0_10 l0_10.length c0_10) l0_10) := ⟨(by rw [hw]; exact (by (with_reducible repeat (first | apply Kd.V_alloc | apply Kd.V_drewN | apply Kd.V_drew)); exact Kd.V_mono (Kd.V_far (p := ⟨gb195, 3, none⟩) (Kd.V_mono HO_196010.out (fun k_ hk => (⟨hk, hk.2.2.2.2⟩ : _ ∧ k_ ≠ gb195))) (fun _ hk => hk.2) (.bool true)) (fun _ hk => ⟨hk.1.1, ⟨hk.1.2.1, ⟨hk.1.2.2.1, ⟨hk.1.2.2.2.1, hk.1.2.2.2.2⟩⟩⟩⟩)))⟩; have n6_ : Aside0 (Kd.V (Kd.int .u8) 5 w73 w.heap.size (fun k_ => ((P0_9_ k_ ∨ P0_10_ k_) ∨ w.heap.size ≤ k_) ∧ Triv v193 k_ ∧ some k_ ≠ (u9 : Value).ownBlock ∧ k_ ≠ gb185 ∧ k_ ≠ gb195) (.slice A70 y204.length c70) y204) := ⟨(by rw [hw]; exact (by (with_reducible repeat (first | apply Kd.V_alloc | apply Kd.V_drewN | apply Kd.V_drew)); exact Kd.V_mono (Kd.V_far (p := ⟨gb195, 3, none⟩) (Kd.V_mono HO208.out (fun k_ hk => (⟨hk, hk.2.2.2.2⟩ : _ ∧ k_ ≠ gb195))) (fun _ hk => hk.2) (.bool true)) (fun _ hk => ⟨hk.1.1, ⟨hk.1.2.1, ⟨hk.1.2.2.1, ⟨hk.1.2.2.2.1, hk.1.2.2.2.2⟩⟩⟩⟩)))⟩; have n7_ : Aside0 (w73.heap[gb185]? = some (.cells #[.int .u8 a0_0, .int .u16 a0_1, .bool false, .bool a0_3, .int .i64 a0_4, .int .u8 a0_5, .int .u8 a0_6, .int .u32 a0_7, .int .u32 a0_8, .slice A0_9 l0_9.length c0_9, .slice A0_10 l0_10.length c0_10] 68 (0, 0))) := ⟨(by rw [hw]; exact (by (with_reducible repeat (first | refine blk_drewN ?_ _ | refine blk_drew ?_ | refine blk_alloc ?_ _)); refine blk_far ?_ NB185_195.out _; (with_reducible repeat (first | refine blk_drewN ?_ _ | refine blk_drew ?_ | refine blk_alloc ?_ _)); exact BK185.out))⟩; have n8_ : Aside0 (w73.heap[gb195]? = some (.cells #[.int .u8 a0_0, .int .u16 a0_1, .bool false, .bool true, .int .i64 (wrap64 (a0_4 + (wrap64 (Int.tdiv x10_2 8)))), .int .u8 a0_5, .int .u8 a0_6, .int .u32 a0_7, .int .u32 a0_8, .slice Ao65 x196009_28.length co65, .slice A70 y204.length c70] 68 (0, 0))) := ⟨(by rw [hw]; exact (by (with_reducible repeat (first | refine blk_drewN ?_ _ | refine blk_drew ?_ | refine blk_alloc ?_ _)); refine blk_put (cs := #[.int .u8 a0_0, .int .u16 a0_1, .bool false, .bool a0_3, .int .i64 (wrap64 (a0_4 + (wrap64 (Int.tdiv x10_2 8)))), .int .u8 a0_5, .int .u8 a0_6, .int .u32 a0_7, .int .u32 a0_8, .slice Ao65 x196009_28.length co65, .slice A70 y204.length c70]) ?_ 3 _ rfl; (with_reducible repeat (first | refine blk_drewN ?_ _ | refine blk_drew ?_ | refine blk_alloc ?_ _)); exact BK195.out))⟩; have n9_ : Aside0 (Below w.heap.size w w73) := ⟨(by rw [hw]; exact (by repeat (first | (with_reducible first | exact HB.out | apply below_alloc | apply pw_below_drewN | apply below_drew1 | refine below_set ?_ GE185.out | refine below_set ?_ GE195.out) | exact HB.out)))⟩; clear hw; clear HO_7; clear HO_9; clear HO_186009; clear HO_186010; clear HO_196009; clear HO_196010; clear HO208; clear BK185; clear BK195; clear HB; have HO_7 := n0_; have HO_9 := n1_; have HO_186009 := n2_; have HO_186010 := n3_; have HO_196009 := n4_; have HO_196010 := n5_; have HO208 := n6_; have BK185 := n7_; have BK195 := n8_; have HB := n9_; clear n0_ n1_ n2_ n3_ n4_ n5_ n6_ n7_ n8_ n9_; have hcz74_0 : w73.cell? ⟨gb195, 0, none⟩ = some (.int .u8 a0_0) := (blk_cell BK195.out 0).trans rfl; have hcz74_1 : w73.cell? ⟨gb195, 1, none⟩ = some (.int .u16 a0_1) := (blk_cell BK195.out 1).trans rfl; have hcz74_2 : w73.cell? ⟨gb195, 2, none⟩ = some (.bool false) := (blk_cell BK195.out 2).trans rfl; have hcz74_3 : w73.cell? ⟨gb195, 3, none⟩ = some (.bool true) := (blk_cell BK195.out 3).trans rfl; have hcz74_4 : w73.cell? ⟨gb195, 4, none⟩ = some (.int .i64 (wrap64 (a0_4 + (wrap64 (Int.tdiv x10_2 8))))) := (blk_cell BK195.out 4).trans rfl; have hcz74_5 : w73.cell? ⟨gb195, 5, none⟩ = some (.int .u8 a0_5) := (blk_cell BK195.out 5).trans rfl; have hcz74_6 : w73.cell? ⟨gb195, 6, none⟩ = some (.int .u8 a0_6) := (blk_cell BK195.out 6).trans rfl; have hcz74_7 : w73.cell? ⟨gb195, 7, none⟩ = some (.int .u32 a0_7) := (blk_cell BK195.out 7).trans rfl; have hcz74_8 : w73.cell? ⟨gb195, 8, none⟩ = some (.int .u32 a0_8) := (blk_cell BK195.out 8).trans rfl; have hcz74_9 : w73.cell? ⟨gb195, 9, none⟩ = some (.slice Ao65 x196009_28.length co65) := (blk_cell BK195.out 9).trans rfl; have hcz74_10 : w73.cell? ⟨gb195, 10, none⟩ = some (.slice A70 y204.length c70) := (blk_cell BK195.out 10).trans rfl; have hfz74_0 := blk_frozen BK195.out 0; have hfz74_1 := blk_frozen BK195.out 1; have hfz74_2 := blk_frozen BK195.out 2; have hfz74_3 := blk_frozen BK195.out 3; have hfz74_4 := blk_frozen BK195.out 4; have hfz74_5 := blk_frozen BK195.out 5; have hfz74_6 := blk_frozen BK195.out 6; have hfz74_7 := blk_frozen BK195.out 7; have hfz74_8 := blk_frozen BK195.out 8; have hfz74_9 := blk_frozen BK195.out 9; have hfz74_10 := blk_frozen BK195.out 10) | ((with_reducible refine gate_builtin (b := .append) (xs := #[.tmp 98, .tmp 100]) rfl ?_); at_builtin; refine Kd.N_append k68 (w0 := w) w.heap.size rfl (.tmp 98) (.tmp 100) 70 68 (.agg #[(.int .u8 0), (.int .u16 0), (.bool false), (.bool false), (.int .i64 0), (.int .u8 0), (.int .u8 0), (.int .u32 0), (.int .u32 0), (.slice none 0 0), (.slice none 0 0)]) 80 rfl Try.underlying70 info68 rfl (by decide) (by omega) u9 x9_2 (⟨a0_0, a0_1, false, true, wrap64 (a0_4 + (wrap64 (Int.tdiv x10_2 8))), a0_5, a0_6, a0_7, a0_8, x196009_28, y204⟩ : S68) [.int .u8 a0_0, .int .u16 a0_1, .bool false, .bool true, .int .i64 (wrap64 (a0_4 + (wrap64 (Int.tdiv x10_2 8)))), .int .u8 a0_5, .int .u8 a0_6, .int .u32 a0_7, .int .u32 a0_8, .slice Ao65 x196009_28.length co65, .slice A70 y204.length c70] (fun k_ => ((P0_9_ k_ ∨ P0_10_ k_) ∨ w.heap.size ≤ k_) ∧ Triv v193 k_ ∧ k_ ≠ gb185 ∧ k_ ≠ gb195) (fun k_ => ((fun k_ => ((P0_9_ k_ ∨ P0_10_ k_) ∨ w.heap.size ≤ k_) ∧ Triv v193 k_ ∧ k_ ≠ gb185 ∧ k_ ≠ gb195)) k_ ∧ some k_ ≠ (u9 : Value).ownBlock) rfl rfl ?aP (fun _ hk => hk) ?aF ?aO ?aB ?aS ?aL ?_; (case aP => exact (k68_mkF _ _ (⟨a0_0, a0_1, false, true, wrap64 (a0_4 + (wrap64 (Int.tdiv x10_2 8))), a0_5, a0_6, a0_7, a0_8, x196009_28, y204⟩ : S68) (Kd.V_reads' (Kd.V_mono (ok' := (fun k_ => ((fun k_ => ((P0_9_ k_ ∨ P0_10_ k_) ∨ w.heap.size ≤ k_) ∧ Triv v193 k_ ∧ k_ ≠ gb185 ∧ k_ ≠ gb195)) k_ ∧ some k_ ≠ (u9 : Value).ownBlock)) (HO_196009.out) (fun k_ hk => ⟨⟨hk.1, ⟨hk.2.1, ⟨hk.2.2.2.1, hk.2.2.2.2⟩⟩⟩, hk.2.2.1⟩))).2.1 (Kd.V_F (Kd.V_mono (ok' := (fun k_ => ((fun k_ => ((P0_9_ k_ ∨ P0_10_ k_) ∨ w.heap.size ≤ k_) ∧ Triv v193 k_ ∧ k_ ≠ gb185 ∧ k_ ≠ gb195)) k_ ∧ some k_ ≠ (u9 : Value).ownBlock)) (HO_196009.out) (fun k_ hk => ⟨⟨hk.1, ⟨hk.2.1, ⟨hk.2.2.2.1, hk.2.2.2.2⟩⟩⟩, hk.2.2.1⟩))) (Kd.V_reads' (Kd.V_mono (ok' := (fun k_ => ((fun k_ => ((P0_9_ k_ ∨ P0_10_ k_) ∨ w.heap.size ≤ k_) ∧ Triv v193 k_ ∧ k_ ≠ gb185 ∧ k_ ≠ gb195)) k_ ∧ some k_ ≠ (u9 : Value).ownBlock)) (HO208.out) (fun k_ hk => ⟨⟨hk.1, ⟨hk.2.1, ⟨hk.2.2.2.1, hk.2.2.2.2⟩⟩⟩, hk.2.2.1⟩))).2.1 (Kd.V_F (Kd.V_mono (ok' := (fun k_ => ((fun k_ => ((P0_9_ k_ ∨ P0_10_ k_) ∨ w.heap.size ≤ k_) ∧ Triv v193 k_ ∧ k_ ≠ gb185 ∧ k_ ≠ gb195)) k_ ∧ some k_ ≠ (u9 : Value).ownBlock)) (HO208.out) (fun k_ hk => ⟨⟨hk.1, ⟨hk.2.1, ⟨hk.2.2.2.1, hk.2.2.2.2⟩⟩⟩, hk.2.2.1⟩))))); (case aB => exact (by repeat (first | (with_reducible first | exact HB.out | apply below_alloc | apply pw_below_drewN | apply below_drew1 | refine below_set ?_ GE185.out | refine below_set ?_ GE195.out) | exact HB.out))); (case aF => exact (fun k_ hk => ⟨(.inr (Nat.le_trans (below_size (by repeat (first | (with_reducible first | exact HB.out | apply below_alloc | apply pw_below_drewN | apply below_drew1 | refine below_set ?_ GE185.out | refine below_set ?_ GE195.out) | exact HB.out))) hk)), trivial, Kd.freshB (g := gb185) (o := .cells #[.int .u8 a0_0, .int .u16 a0_1, .bool false, .bool a0_3, .int .i64 a0_4, .int .u8 a0_5, .int .u8 a0_6, .int .u32 a0_7, .int .u32 a0_8, .slice A0_9 l0_9.length c0_9, .slice A0_10 l0_10.length c0_10] 68 (0, 0)) (by (with_reducible repeat (first | refine blk_drewN ?_ _ | refine blk_drew ?_ | refine blk_alloc ?_ _)); exact BK185.out) k_ hk, Kd.freshB (g := gb195) (o := .cells #[.int .u8 a0_0, .int .u16 a0_1, .bool false, .bool true, .int .i64 (wrap64 (a0_4 + (wrap64 (Int.tdiv x10_2 8)))), .int .u8 a0_5, .int .u8 a0_6, .int .u32 a0_7, .int .u32 a0_8, .slice Ao65 x196009_28.length co65, .slice A70 y204.length c70] 68 (0, 0)) (by (with_reducible repeat (first | refine blk_drewN ?_ _ | refine blk_drew ?_ | refine blk_alloc ?_ _)); exact BK195.out) k_ hk⟩)); (case aO => exact (by (with_reducible repeat (first | apply Kd.N_alloc | apply Kd.N_drewN | apply Kd.N_drew)); exact HO_9.out)); (case aS => exact (below_size (by repeat (first | (with_reducible first | exact HB.out | apply below_alloc | apply pw_below_drewN | apply below_drew1 | refine below_set ?_ GE185.out | refine below_set ?_ GE195.out) | exact HB.out)))); (case aL => have := LMc62.out; omega); intro v210 w75 ho hb hg hat; rw [← Ny209.out] at ho; have n0_ := Aside0.mk (Kd.R_over' (by (with_reducible repeat (first | apply Kd.R_alloc | apply Kd.R_drewN | apply Kd.R_drew)); exact HO_7.out) (Kd.N_typed (by (with_reducible repeat (first | apply Kd.N_alloc | apply Kd.N_drewN | apply Kd.N_drew)); exact HO_9.out)) (by decide) hg); have n1_ := Aside0.mk (Kd.V_afterv (ok := (fun k_ => ((P0_9_ k_ ∨ P0_10_ k_) ∨ w.heap.size ≤ k_) ∧ Triv v193 k_ ∧ k_ ≠ gb185 ∧ k_ ≠ gb195)) (by (with_reducible repeat (first | apply Kd.V_alloc | apply Kd.V_drewN | apply Kd.V_drew)); exact Kd.V_mono HO_186009.out (fun _ hk => ⟨⟨hk.1, ⟨hk.2.1, ⟨hk.2.2.2.1, hk.2.2.2.2⟩⟩⟩, hk.2.2.1⟩)) hg hat); have n2_ := Aside0.mk (Kd.V_afterv (ok := (fun k_ => ((P0_9_ k_ ∨ P0_10_ k_) ∨ w.heap.size ≤ k_) ∧ Triv v193 k_ ∧ k_ ≠ gb185 ∧ k_ ≠ gb195)) (by (with_reducible repeat (first | apply Kd.V_alloc | apply Kd.V_drewN | apply Kd.V_drew)); exact Kd.V_mono HO_186010.out (fun _ hk => ⟨⟨hk.1, ⟨hk.2.1, ⟨hk.2.2.2.1, hk.2.2.2.2⟩⟩⟩, hk.2.2.1⟩)) hg hat); have n3_ := Aside0.mk (Kd.V_afterv (ok := (fun k_ => ((P0_9_ k_ ∨ P0_10_ k_) ∨ w.heap.size ≤ k_) ∧ Triv v193 k_ ∧ k_ ≠ gb185 ∧ k_ ≠ gb195)) (by (with_reducible repeat (first | apply Kd.V_alloc | apply Kd.V_drewN | apply Kd.V_drew)); exact Kd.V_mono HO_196009.out (fun _ hk => ⟨⟨hk.1, ⟨hk.2.1, ⟨hk.2.2.2.1, hk.2.2.2.2⟩⟩⟩, hk.2.2.1⟩)) hg hat); have n4_ := Aside0.mk (Kd.V_afterv (ok := (fun k_ => ((P0_9_ k_ ∨ P0_10_ k_) ∨ w.heap.size ≤ k_) ∧ Triv v193 k_ ∧ k_ ≠ gb185 ∧ k_ ≠ gb195)) (by (with_reducible repeat (first | apply Kd.V_alloc | apply Kd.V_drewN | apply Kd.V_drew)); exact Kd.V_mono HO_196010.out (fun _ hk => ⟨⟨hk.1, ⟨hk.2.1, ⟨hk.2.2.2.1, hk.2.2.2.2⟩⟩⟩, hk.2.2.1⟩)) hg hat); have n5_ := Aside0.mk (blk_grown (g := gb185) (o := .cells #[.int .u8 a0_0, .int .u16 a0_1, .bool false, .bool a0_3, .int .i64 a0_4, .int .u8 a0_5, .int .u8 a0_6, .int .u32 a0_7, .int .u32 a0_8, .slice A0_9 l0_9.length c0_9, .slice A0_10 l0_10.length c0_10] 68 (0, 0)) (by (with_reducible repeat (first | refine blk_drewN ?_ _ | refine blk_drew ?_ | refine blk_alloc ?_ _)); exact BK185.out) hg (Kd.N_away HO_9.out (fun _ hk => hk.2.2.1))); have n6_ := Aside0.mk (blk_grown (g := gb195) (o := .cells #[.int .u8 a0_0, .int .u16 a0_1, .bool false, .bool true, .int .i64 (wrap64 (a0_4 + (wrap64 (Int.tdiv x10_2 8)))), .int .u8 a0_5, .int .u8 a0_6, .int .u32 a0_7, .int .u32 a0_8, .slice Ao65 x196009_28.length co65, .slice A70 y204.length c70] 68 (0, 0)) (by (with_reducible repeat (first | refine blk_drewN ?_ _ | refine blk_drew ?_ | refine blk_alloc ?_ _)); exact BK195.out) hg (Kd.N_away HO_9.out (fun _ hk => hk.2.2.2))); have n7_ := Aside0.mk (Kd.V_afterv (ok := (fun k_ => ((P0_9_ k_ ∨ P0_10_ k_) ∨ w.heap.size ≤ k_) ∧ Triv v193 k_ ∧ k_ ≠ gb185 ∧ k_ ≠ gb195)) (by (with_reducible repeat (first | apply Kd.V_alloc | apply Kd.V_drewN | apply Kd.V_drew)); exact Kd.V_mono HO208.out (fun _ hk => ⟨⟨hk.1, ⟨hk.2.1, ⟨hk.2.2.2.1, hk.2.2.2.2⟩⟩⟩, hk.2.2.1⟩)) hg hat); have n8_ := Aside0.mk (hb); have n9_ := Aside0.mk (ho); clear HO_7; clear HO_186009; clear HO_186010; clear HO_196009; clear HO_196010; clear BK185; clear BK195; clear HO208; clear HB; clear HO_9; have HO_7 := n0_; have HO_186009 := n1_; have HO_186010 := n2_; have HO_196009 := n3_; have HO_196010 := n4_; have BK185 := n5_; have BK195 := n6_; have HO208 := n7_; have HB := n8_; have HO211 := n9_; clear n0_ n1_ n2_ n3_ n4_ n5_ n6_ n7_ n8_ n9_; clear ho hb hg hat))
                   go_roundg kj28
                   case measure => have := HJ4.out; have := HK2.out; have := HJ28.out; omega
                   case rel => exact ⟨(y209), (wrap64 (x10_2 + (wrap64 ((wrap64 (Int.tdiv (wrap64 ((wrap64 (a1 - 20)) - (x196009_28.length : Int))) 8)) * 8)))), (by first | rfl | (simp; done) | (simp [*]; done)), H', ⟨by have := HJ4.out; have := HK2.out; have := HJ28.out; omega⟩, ⟨by (with_reducible repeat (first | apply Kd.R_alloc | apply Kd.R_drewN | apply Kd.R_drew)); exact HO_7.out⟩, ⟨by (with_reducible repeat (first | apply Kd.N_alloc | apply Kd.N_drewN | apply Kd.N_drew)); exact Kd.N_mono HO211.out (fun _ hk => ⟨hk.1, ⟨hk.2.1, hk.2.2.1⟩⟩)⟩, ⟨by (with_reducible repeat (first | apply Kd.V_alloc | apply Kd.V_drewN | apply Kd.V_drew)); exact Kd.V_mono HO_186009.out (fun _ hk => ⟨hk.1.1, ⟨hk.1.2.1, ⟨hk.2, hk.1.2.2.1⟩⟩⟩)⟩, ⟨by (with_reducible repeat (first | apply Kd.V_alloc | apply Kd.V_drewN | apply Kd.V_drew)); exact Kd.V_mono HO_186010.out (fun _ hk => ⟨hk.1.1, ⟨hk.1.2.1, ⟨hk.2, hk.1.2.2.1⟩⟩⟩)⟩, ⟨by (with_reducible repeat (first | refine blk_drewN ?_ _ | refine blk_drew ?_ | refine blk_alloc ?_ _)); exact BK185.out⟩, ⟨by repeat (first | (with_reducible first | exact HB.out | apply below_alloc | apply pw_below_drewN | apply below_drew1 | refine below_set ?_ GE185.out | refine below_set ?_ GE195.out) | exact HB.out)⟩⟩
                  ·
                   rw [if_neg c62] at H
                   exact absurd H (by simp)
                 ·
                  rw [if_neg c61] at H
                  exact absurd H (by simp)
                ·
                 rw [if_neg c60] at H
                 exact absurd H (by simp)
               ·
                rw [if_neg c59] at H
                exact absurd H (by simp)
          ·
           rw [if_neg c28] at H
           have c28b0 : decide (x10_2 < (l0_10.length : Int)) = false := decide_eq_false c28
           clear c28
           simp only [Option.some.injEq, Prod.mk.injEq] at H
           obtain ⟨rfl, rfl⟩ := H
           have hcz76_0 : wr.cell? ⟨gb185, 0, none⟩ = some (.int .u8 a0_0) := (blk_cell BK185.out 0).trans rfl
           have hcz76_1 : wr.cell? ⟨gb185, 1, none⟩ = some (.int .u16 a0_1) := (blk_cell BK185.out 1).trans rfl
           have hcz76_2 : wr.cell? ⟨gb185, 2, none⟩ = some (.bool false) := (blk_cell BK185.out 2).trans rfl
           have hcz76_3 : wr.cell? ⟨gb185, 3, none⟩ = some (.bool a0_3) := (blk_cell BK185.out 3).trans rfl
           have hcz76_4 : wr.cell? ⟨gb185, 4, none⟩ = some (.int .i64 a0_4) := (blk_cell BK185.out 4).trans rfl
           have hcz76_5 : wr.cell? ⟨gb185, 5, none⟩ = some (.int .u8 a0_5) := (blk_cell BK185.out 5).trans rfl
           have hcz76_6 : wr.cell? ⟨gb185, 6, none⟩ = some (.int .u8 a0_6) := (blk_cell BK185.out 6).trans rfl
           have hcz76_7 : wr.cell? ⟨gb185, 7, none⟩ = some (.int .u32 a0_7) := (blk_cell BK185.out 7).trans rfl
           have hcz76_8 : wr.cell? ⟨gb185, 8, none⟩ = some (.int .u32 a0_8) := (blk_cell BK185.out 8).trans rfl
           have hcz76_9 : wr.cell? ⟨gb185, 9, none⟩ = some (.slice A0_9 l0_9.length c0_9) := (blk_cell BK185.out 9).trans rfl
           have hcz76_10 : wr.cell? ⟨gb185, 10, none⟩ = some (.slice A0_10 l0_10.length c0_10) := (blk_cell BK185.out 10).trans rfl
           have hfz76_0 := blk_frozen BK185.out 0
           have hfz76_1 := blk_frozen BK185.out 1
           have hfz76_2 := blk_frozen BK185.out 2
           have hfz76_3 := blk_frozen BK185.out 3
           have hfz76_4 := blk_frozen BK185.out 4
           have hfz76_5 := blk_frozen BK185.out 5
           have hfz76_6 := blk_frozen BK185.out 6
           have hfz76_7 := blk_frozen BK185.out 7
           have hfz76_8 := blk_frozen BK185.out 8
           have hfz76_9 := blk_frozen BK185.out 9
           have hfz76_10 := blk_frozen BK185.out 10
           go_wp2
           go_ret2
           exact ⟨_, by first | rfl | (simp [errW_none, errW_some] <;> rfl) | (simp [*, errW_none, errW_some] <;> rfl), by (with_reducible repeat (first | apply Kd.N_alloc | apply Kd.N_drewN | apply Kd.N_drew)); exact Kd.N_mono HO_9.out (fun _ hk => hk.1), by repeat (first | (with_reducible first | exact HB.out | apply below_alloc | apply pw_below_drewN | apply below_drew1 | refine below_set ?_ GE185.out) | exact HB.out)⟩
       ·
        rw [if_neg c23] at H
        have c23b0 : (t192 == 0) = false := beq_eq_false_iff_ne.mpr c23
        have c23b1 : (t192 != 0) = true := bne_iff_ne.mpr c23
        simp only [Option.some.injEq, Prod.mk.injEq] at H
        obtain ⟨rfl, rfl⟩ := H
        have hcz77_0 : wc.cell? ⟨gb185, 0, none⟩ = some (.int .u8 a0_0) := (blk_cell BK185.out 0).trans rfl
        have hcz77_1 : wc.cell? ⟨gb185, 1, none⟩ = some (.int .u16 a0_1) := (blk_cell BK185.out 1).trans rfl
        have hcz77_2 : wc.cell? ⟨gb185, 2, none⟩ = some (.bool false) := (blk_cell BK185.out 2).trans rfl
        have hcz77_3 : wc.cell? ⟨gb185, 3, none⟩ = some (.bool a0_3) := (blk_cell BK185.out 3).trans rfl
        have hcz77_4 : wc.cell? ⟨gb185, 4, none⟩ = some (.int .i64 a0_4) := (blk_cell BK185.out 4).trans rfl
        have hcz77_5 : wc.cell? ⟨gb185, 5, none⟩ = some (.int .u8 a0_5) := (blk_cell BK185.out 5).trans rfl
        have hcz77_6 : wc.cell? ⟨gb185, 6, none⟩ = some (.int .u8 a0_6) := (blk_cell BK185.out 6).trans rfl
        have hcz77_7 : wc.cell? ⟨gb185, 7, none⟩ = some (.int .u32 a0_7) := (blk_cell BK185.out 7).trans rfl
        have hcz77_8 : wc.cell? ⟨gb185, 8, none⟩ = some (.int .u32 a0_8) := (blk_cell BK185.out 8).trans rfl
        have hcz77_9 : wc.cell? ⟨gb185, 9, none⟩ = some (.slice A0_9 l0_9.length c0_9) := (blk_cell BK185.out 9).trans rfl
        have hcz77_10 : wc.cell? ⟨gb185, 10, none⟩ = some (.slice A0_10 l0_10.length c0_10) := (blk_cell BK185.out 10).trans rfl
        have hfz77_0 := blk_frozen BK185.out 0
        have hfz77_1 := blk_frozen BK185.out 1
        have hfz77_2 := blk_frozen BK185.out 2
        have hfz77_3 := blk_frozen BK185.out 3
        have hfz77_4 := blk_frozen BK185.out 4
        have hfz77_5 := blk_frozen BK185.out 5
        have hfz77_6 := blk_frozen BK185.out 6
        have hfz77_7 := blk_frozen BK185.out 7
        have hfz77_8 := blk_frozen BK185.out 8
        have hfz77_9 := blk_frozen BK185.out 9
        have hfz77_10 := blk_frozen BK185.out 10
        go_wp2_with (first | ((with_reducible refine gate_callee (f := 41) rfl ?_); refine goesL_ (some 26) rfl rfl Try.func41 (by kernel_rfl) rfl #[.agg #[.int .u8 a0_0, .int .u16 a0_1, .bool false, .bool a0_3, .int .i64 a0_4, .int .u8 a0_5, .int .u8 a0_6, .int .u32 a0_7, .int .u32 a0_8, .slice A0_9 l0_9.length c0_9, .slice A0_10 l0_10.length c0_10]] rfl (by (try simp only [List.map_toArray, List.map_cons, List.map_nil]); first | done | rfl | (simp only [List.length_drop, List.length_take]; rfl) | (go_simp; done) | (go_simp; omega)) ?_; (with_reducible refine (towroperef06_Len.calls a0_0 a0_1 false a0_3 a0_4 a0_5 a0_6 a0_7 a0_8 _ _ l0_9 _ _ l0_10 t187 _ ?side1 ?side2 ?side3 ?side4 A11.out).mono ?_); (case side1 => repeat (first | exact (Kd.V_reads' HO_186009.out).2.2 | (with_reducible refine Kd.C_alloc ?_ _) | (with_reducible refine Kd.C_drewN ?_ _) | (with_reducible refine Kd.C_drew ?_))); (case side2 => exact (Kd.V_reads' HO_186009.out).2.1); (case side3 => repeat (first | exact (Kd.V_reads' HO_186010.out).2.2 | (with_reducible refine Kd.C_alloc ?_ _) | (with_reducible refine Kd.C_drewN ?_ _) | (with_reducible refine Kd.C_drew ?_))); (case side4 => exact (Kd.V_reads' HO_186010.out).2.1); rintro e w78 ⟨rfl, hb⟩; refine ⟨_, rfl, ?_⟩; have n0_ := Aside0.mk (Kd.V_below (by (with_reducible repeat (first | apply Kd.V_alloc | apply Kd.V_drewN | apply Kd.V_drew)); exact HO_186009.out) hb); have n1_ := Aside0.mk (Kd.V_below (by (with_reducible repeat (first | apply Kd.V_alloc | apply Kd.V_drewN | apply Kd.V_drew)); exact HO_186010.out) hb); have n2_ := Aside0.mk (blk_below (g := gb185) (o := .cells #[.int .u8 a0_0, .int .u16 a0_1, .bool false, .bool a0_3, .int .i64 a0_4, .int .u8 a0_5, .int .u8 a0_6, .int .u32 a0_7, .int .u32 a0_8, .slice A0_9 l0_9.length c0_9, .slice A0_10 l0_10.length c0_10] 68 (0, 0)) (by (with_reducible repeat (first | refine blk_drewN ?_ _ | refine blk_drew ?_ | refine blk_alloc ?_ _)); exact BK185.out) hb); have n3_ := Aside0.mk (below_step (by repeat (first | (with_reducible first | exact HB.out | apply below_alloc | apply pw_below_drewN | apply below_drew1 | refine below_set ?_ GE185.out) | exact HB.out)) hb); clear HO_186009; clear HO_186010; clear BK185; clear HB; have HO_186009 := n0_; have HO_186010 := n1_; have BK185 := n2_; have HB := n3_; clear n0_ n1_ n2_ n3_; (try clear hb); (try clear hb2); (try clear hk); (try clear hi); have hcz79_0 : w78.cell? ⟨gb185, 0, none⟩ = some (.int .u8 a0_0) := (blk_cell BK185.out 0).trans rfl; have hcz79_1 : w78.cell? ⟨gb185, 1, none⟩ = some (.int .u16 a0_1) := (blk_cell BK185.out 1).trans rfl; have hcz79_2 : w78.cell? ⟨gb185, 2, none⟩ = some (.bool false) := (blk_cell BK185.out 2).trans rfl; have hcz79_3 : w78.cell? ⟨gb185, 3, none⟩ = some (.bool a0_3) := (blk_cell BK185.out 3).trans rfl; have hcz79_4 : w78.cell? ⟨gb185, 4, none⟩ = some (.int .i64 a0_4) := (blk_cell BK185.out 4).trans rfl; have hcz79_5 : w78.cell? ⟨gb185, 5, none⟩ = some (.int .u8 a0_5) := (blk_cell BK185.out 5).trans rfl; have hcz79_6 : w78.cell? ⟨gb185, 6, none⟩ = some (.int .u8 a0_6) := (blk_cell BK185.out 6).trans rfl; have hcz79_7 : w78.cell? ⟨gb185, 7, none⟩ = some (.int .u32 a0_7) := (blk_cell BK185.out 7).trans rfl; have hcz79_8 : w78.cell? ⟨gb185, 8, none⟩ = some (.int .u32 a0_8) := (blk_cell BK185.out 8).trans rfl; have hcz79_9 : w78.cell? ⟨gb185, 9, none⟩ = some (.slice A0_9 l0_9.length c0_9) := (blk_cell BK185.out 9).trans rfl; have hcz79_10 : w78.cell? ⟨gb185, 10, none⟩ = some (.slice A0_10 l0_10.length c0_10) := (blk_cell BK185.out 10).trans rfl; have hfz79_0 := blk_frozen BK185.out 0; have hfz79_1 := blk_frozen BK185.out 1; have hfz79_2 := blk_frozen BK185.out 2; have hfz79_3 := blk_frozen BK185.out 3; have hfz79_4 := blk_frozen BK185.out 4; have hfz79_5 := blk_frozen BK185.out 5; have hfz79_6 := blk_frozen BK185.out 6; have hfz79_7 := blk_frozen BK185.out 7; have hfz79_8 := blk_frozen BK185.out 8; have hfz79_9 := blk_frozen BK185.out 9; have hfz79_10 := blk_frozen BK185.out 10) | ((with_reducible refine gate_callee (f := 37) rfl ?_); refine goesL_ (some 36) rfl rfl Try.func37 (by kernel_rfl) rfl #[.slice A0_9 l0_9.length c0_9] rfl (by (try simp only [List.map_toArray, List.map_cons, List.map_nil]); first | done | rfl | (simp only [List.length_drop, List.length_take]; rfl) | (go_simp; done) | (go_simp; omega)) ?_; (with_reducible refine (towroperef11_Carried.calls kj4 _ _ l0_9 t191 t192 _ ?side1 ?side2 A22.out).mono ?_); (case side1 => repeat (first | exact (Kd.V_reads' HO_186009.out).2.2 | (with_reducible refine Kd.C_alloc ?_ _) | (with_reducible refine Kd.C_drewN ?_ _) | (with_reducible refine Kd.C_drew ?_))); (case side2 => exact (Kd.V_reads' HO_186009.out).2.1); rintro e w80 ⟨v193, rfl, ho0, hb⟩; refine ⟨_, rfl, ?_⟩; have n0_ := Aside0.mk (Kd.V_elder' (by (with_reducible repeat (first | apply Kd.V_alloc | apply Kd.V_drewN | apply Kd.V_drew)); exact HO_186009.out) (Kd.R_base ho0) hb); have n1_ := Aside0.mk (Kd.V_elder' (by (with_reducible repeat (first | apply Kd.V_alloc | apply Kd.V_drewN | apply Kd.V_drew)); exact HO_186010.out) (Kd.R_base ho0) hb); have n2_ := Aside0.mk (Kd.R_lower (Kd.R_newM (M := fun k_ => (w.heap.size ≤ k_)) ho0 (below_size (by repeat (first | (with_reducible first | exact HB.out | apply below_alloc | apply pw_below_drewN | apply below_drew1 | refine below_set ?_ GE185.out) | exact HB.out))) (fun k_ h_ => h_)) (below_size (by repeat (first | (with_reducible first | exact HB.out | apply below_alloc | apply pw_below_drewN | apply below_drew1 | refine below_set ?_ GE185.out) | exact HB.out)))); have n3_ := Aside0.mk (blk_below (g := gb185) (o := .cells #[.int .u8 a0_0, .int .u16 a0_1, .bool false, .bool a0_3, .int .i64 a0_4, .int .u8 a0_5, .int .u8 a0_6, .int .u32 a0_7, .int .u32 a0_8, .slice A0_9 l0_9.length c0_9, .slice A0_10 l0_10.length c0_10] 68 (0, 0)) (by (with_reducible repeat (first | refine blk_drewN ?_ _ | refine blk_drew ?_ | refine blk_alloc ?_ _)); exact BK185.out) hb); have n4_ := Aside0.mk (below_step (by repeat (first | (with_reducible first | exact HB.out | apply below_alloc | apply pw_below_drewN | apply below_drew1 | refine below_set ?_ GE185.out) | exact HB.out)) hb); clear HO_186009; clear HO_186010; clear BK185; clear HB; have HO_186009 := n0_; have HO_186010 := n1_; have HO194 := n2_; have BK185 := n3_; have HB := n4_; clear n0_ n1_ n2_ n3_ n4_; (try clear hb); (try clear hb2); (try clear hk); (try clear hi); (try clear ho0)))
        go_ret2
        exact ⟨_, by first | rfl | (simp [errW_none, errW_some] <;> rfl) | (simp [*, errW_none, errW_some] <;> rfl), by first | exact Kd.S_nil _ _ _ _ _ | exact Kd.N_nil _ _ _ _ _ | exact Kd.V_nil _ _ _ _ _ | exact Kd.Q_nil _ _ _ _ _ | exact Kd.R_nil _ _ _ _ _, by repeat (first | (with_reducible first | exact HB.out | apply below_alloc | apply pw_below_drewN | apply below_drew1 | refine below_set ?_ GE185.out) | exact HB.out)⟩
 ·
  rw [if_neg c4] at H
  have c4b0 : (t186 == 0) = false := beq_eq_false_iff_ne.mpr c4
  have c4b1 : (t186 != 0) = true := bne_iff_ne.mpr c4
  simp only [Option.some.injEq, Prod.mk.injEq] at H
  obtain ⟨rfl, rfl⟩ := H
  go_enter Try.func43, Try.ntmps43
  go_wp2_with (first | ((with_reducible refine gate_dst (N := 2) rfl ?_); refine box_event ?hg (N := 2) ?hd (cs := #[.int .u8 a0_0, .int .u16 a0_1, .bool a0_2, .bool a0_3, .int .i64 a0_4, .int .u8 a0_5, .int .u8 a0_6, .int .u32 a0_7, .int .u32 a0_8, .slice A0_9 l0_9.length c0_9, .slice A0_10 l0_10.length c0_10]) (t := 68) ?hr ?_; (case hd => rfl); (case hg => rfl); (case hr => first | (go_simp; done) | (go_simp; rfl)); intro gb185 hg w81 hbox hb; have n0_ := Aside0.mk (Kd.V_below (Kd.V_elderB (by (with_reducible repeat (first | apply Kd.V_alloc | apply Kd.V_drewN | apply Kd.V_drew)); exact HO0_9.out) gb185 (Nat.le_of_eq hg.symm)) hb); have n1_ := Aside0.mk (Kd.V_below (Kd.V_elderB (by (with_reducible repeat (first | apply Kd.V_alloc | apply Kd.V_drewN | apply Kd.V_drew)); exact HO0_10.out) gb185 (Nat.le_of_eq hg.symm)) hb); have n2_ := Aside0.mk (below_step (by repeat (first | (with_reducible first | exact HB.out | apply below_alloc | apply pw_below_drewN | apply below_drew1) | exact HB.out)) hb); have n3_ := Aside0.mk (hbox); have n4_ := Aside0.mk ((by rw [hg]; exact (below_size (by repeat (first | (with_reducible first | exact HB.out | apply below_alloc | apply pw_below_drewN | apply below_drew1) | exact HB.out))) : w.heap.size ≤ gb185)); have n5_ := Aside0.mk ((by rw [hg]; exact (below_size (by repeat (first | (with_reducible first | exact HB.out | apply below_alloc | apply pw_below_drewN | apply below_drew1) | exact HB.out))) : w.heap.size ≤ gb185)); clear HO0_9; clear HO0_10; clear HB; have HO0_9 := n0_; have HO0_10 := n1_; have HB := n2_; have BK185 := n3_; have GW185 := n4_; have GE185 := n5_; clear n0_ n1_ n2_ n3_ n4_ n5_; clear hb hbox hg; have hcz82_0 : w81.cell? ⟨gb185, 0, none⟩ = some (.int .u8 a0_0) := (blk_cell BK185.out 0).trans rfl; have hcz82_1 : w81.cell? ⟨gb185, 1, none⟩ = some (.int .u16 a0_1) := (blk_cell BK185.out 1).trans rfl; have hcz82_2 : w81.cell? ⟨gb185, 2, none⟩ = some (.bool a0_2) := (blk_cell BK185.out 2).trans rfl; have hcz82_3 : w81.cell? ⟨gb185, 3, none⟩ = some (.bool a0_3) := (blk_cell BK185.out 3).trans rfl; have hcz82_4 : w81.cell? ⟨gb185, 4, none⟩ = some (.int .i64 a0_4) := (blk_cell BK185.out 4).trans rfl; have hcz82_5 : w81.cell? ⟨gb185, 5, none⟩ = some (.int .u8 a0_5) := (blk_cell BK185.out 5).trans rfl; have hcz82_6 : w81.cell? ⟨gb185, 6, none⟩ = some (.int .u8 a0_6) := (blk_cell BK185.out 6).trans rfl; have hcz82_7 : w81.cell? ⟨gb185, 7, none⟩ = some (.int .u32 a0_7) := (blk_cell BK185.out 7).trans rfl; have hcz82_8 : w81.cell? ⟨gb185, 8, none⟩ = some (.int .u32 a0_8) := (blk_cell BK185.out 8).trans rfl; have hcz82_9 : w81.cell? ⟨gb185, 9, none⟩ = some (.slice A0_9 l0_9.length c0_9) := (blk_cell BK185.out 9).trans rfl; have hcz82_10 : w81.cell? ⟨gb185, 10, none⟩ = some (.slice A0_10 l0_10.length c0_10) := (blk_cell BK185.out 10).trans rfl; have hfz82_0 := blk_frozen BK185.out 0; have hfz82_1 := blk_frozen BK185.out 1; have hfz82_2 := blk_frozen BK185.out 2; have hfz82_3 := blk_frozen BK185.out 3; have hfz82_4 := blk_frozen BK185.out 4; have hfz82_5 := blk_frozen BK185.out 5; have hfz82_6 := blk_frozen BK185.out 6; have hfz82_7 := blk_frozen BK185.out 7; have hfz82_8 := blk_frozen BK185.out 8; have hfz82_9 := blk_frozen BK185.out 9; have hfz82_10 := blk_frozen BK185.out 10) | ((with_reducible refine gate_callee (f := 72) rfl ?_); refine goesL_ (some 15) rfl rfl Try.func72 (by kernel_rfl) rfl #[.agg #[.int .u8 a0_0, .int .u16 a0_1, .bool a0_2, .bool a0_3, .int .i64 a0_4, .int .u8 a0_5, .int .u8 a0_6, .int .u32 a0_7, .int .u32 a0_8, .slice A0_9 l0_9.length c0_9, .slice A0_10 l0_10.length c0_10]] rfl (by (try simp only [List.map_toArray, List.map_cons, List.map_nil]); first | done | rfl | (simp only [List.length_drop, List.length_take]; rfl) | (go_simp; done) | (go_simp; omega)) ?_; (with_reducible refine (towroperef06_Check.calls k a0_0 a0_1 a0_2 a0_3 a0_4 a0_5 a0_6 a0_7 a0_8 _ _ l0_9 _ _ l0_10 t186 _ ?side1 ?side2 ?side3 ?side4 A3.out).mono ?_); (case side1 => repeat (first | exact (Kd.V_reads' HO0_9.out).2.2 | (with_reducible refine Kd.C_alloc ?_ _) | (with_reducible refine Kd.C_drewN ?_ _) | (with_reducible refine Kd.C_drew ?_))); (case side2 => exact (Kd.V_reads' HO0_9.out).2.1); (case side3 => repeat (first | exact (Kd.V_reads' HO0_10.out).2.2 | (with_reducible refine Kd.C_alloc ?_ _) | (with_reducible refine Kd.C_drewN ?_ _) | (with_reducible refine Kd.C_drew ?_))); (case side4 => exact (Kd.V_reads' HO0_10.out).2.1); rintro e w83 ⟨rfl, hb⟩; refine ⟨_, rfl, ?_⟩; have n0_ := Aside0.mk (Kd.V_below (by (with_reducible repeat (first | apply Kd.V_alloc | apply Kd.V_drewN | apply Kd.V_drew)); exact HO0_9.out) hb); have n1_ := Aside0.mk (Kd.V_below (by (with_reducible repeat (first | apply Kd.V_alloc | apply Kd.V_drewN | apply Kd.V_drew)); exact HO0_10.out) hb); have n2_ := Aside0.mk (blk_below (g := gb185) (o := .cells #[.int .u8 a0_0, .int .u16 a0_1, .bool a0_2, .bool a0_3, .int .i64 a0_4, .int .u8 a0_5, .int .u8 a0_6, .int .u32 a0_7, .int .u32 a0_8, .slice A0_9 l0_9.length c0_9, .slice A0_10 l0_10.length c0_10] 68 (0, 0)) (by (with_reducible repeat (first | refine blk_drewN ?_ _ | refine blk_drew ?_ | refine blk_alloc ?_ _)); exact BK185.out) hb); have n3_ := Aside0.mk (below_step (by repeat (first | (with_reducible first | exact HB.out | apply below_alloc | apply pw_below_drewN | apply below_drew1 | refine below_set ?_ GE185.out) | exact HB.out)) hb); clear HO0_9; clear HO0_10; clear BK185; clear HB; have HO0_9 := n0_; have HO0_10 := n1_; have BK185 := n2_; have HB := n3_; clear n0_ n1_ n2_ n3_; (try clear hb); (try clear hb2); (try clear hk); (try clear hi)))
  go_ret2
  exact ⟨_, by first | rfl | (simp [errW_none, errW_some] <;> rfl) | (simp [*, errW_none, errW_some] <;> rfl), by first | exact Kd.S_nil _ _ _ _ _ | exact Kd.N_nil _ _ _ _ _ | exact Kd.V_nil _ _ _ _ _ | exact Kd.Q_nil _ _ _ _ _ | exact Kd.R_nil _ _ _ _ _, by repeat (first | (with_reducible first | exact HB.out | apply below_alloc | apply pw_below_drewN | apply below_drew1 | refine below_set ?_ GE185.out) | exact HB.out)⟩

end Go.Proofs.Ytfmfpofbefgbgaa.PFrb
