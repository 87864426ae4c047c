-- Laid by a program of this session (wip/tools/mk.py) over the kit's print: functions, contracts, walks; not written by hand, not trusted: Lean checks it.
import Derived.Test.YtilkbmjkjlbfmaaPSegPx0
import Derived.Test.YtilkbmjkjlbfmaaPSegPx1
import Derived.Test.YtilkbmjkjlbfmaaPSegPx2
import Derived.Test.YtilkbmjkjlbfmaaPSegPx3
import Derived.Test.YtilkbmjkjlbfmaaPSegPx5
namespace Go.Proofs.Ytilkbmjkjlbfmaa.PSegP
open Go.RowKit Go.Proofs.YtilkbmjkjlbfmaaW.PrintWords Go.Proofs.YtilkbmjkjlbfmaaW.PrintLast Go.Proofs.YtilkbmjkjlbfmaaW.PrintMore
attribute [local go_sem] max2_int min2_int max_two min_two max_three min_three max_four min_four   -- for this text's walks alone
set_option linter.unusedVariables false
set_option linter.unusedSimpArgs false

/-! ### seg_Put: function 54 -/
def seg_Put.f (k : Nat) (a0 : Int) (a1 : Int) (a2_0 : Int) (a2_1 : Int) (a2_2 : Int) (a2_3 : Int) (a2_4 : Int) (a2_5 : Int) (a2_6 : Int) (a2_7 : Int) (l2_8 : List Int) : Option (List Int × Int) := (seg_Check.f k a2_0 a2_1 a2_2 a2_3 a2_4 a2_5 a2_6 a2_7 l2_8).bind fun t207 => (if t207 = 0 then ((seg_Options.f k a2_0 a2_1 a2_2 a2_3 a2_4 a2_5 a2_6 a2_7 l2_8).bind fun t208 => ((octet_Put16.f k ([] : List Int) (wrap64 (a2_0))).bind fun t211 => ((octet_Put16.f k t211 (wrap64 (a2_1))).bind fun t214 => ((octet_Put32.f k t214 a2_2).bind fun t217 => ((octet_Put32.f k t217 a2_3).bind fun t220 => ((some (([(wrap64 (16 * (wrap64 (5 + (wrap64 ((t208.length : Int) / 4)))))) % 256, a2_4] : List Int) : List Int)).bind fun y223 => (if t220.length + y223.length < 140737488355328 then ((octet_Put16.f k (t220 ++ y223) (wrap64 (a2_5))).bind fun t229 => ((some (([0, 0, 0, 0] : List Int) : List Int)).bind fun y232 => (if t229.length + y232.length < 140737488355328 then ((some (t229 ++ y232 : List Int)).bind fun y235 => (if y235.length + t208.length < 140737488355328 then ((some (y235 ++ t208 : List Int)).bind fun y238 => (if y238.length + l2_8.length < 140737488355328 then ((some (y238 ++ l2_8 : List Int)).bind fun y241 => ((sum_Of.f a0 a1 6 y241).bind fun t244 => ((octet_Put16.f k ([] : List Int) t244).bind fun t245 => (if 16 + t245.length ≤ y241.length ∧ 0 < t245.length then (some ((Go.Proofs.Ytilkbmjkjlbfmaa.HExt.over 16 y241 t245), 0)) else (none))))) else (none))) else (none))) else (none)))) else (none)))))))) else (some (([] : List Int), t207)))
theorem seg_Put.mono : ∀ a0 a1 a2 a3 a4 a5 a6 a7 a8 a9 a10 k, LeO (seg_Put.f k a0 a1 a2 a3 a4 a5 a6 a7 a8 a9 a10) (seg_Put.f (k + 1) a0 a1 a2 a3 a4 a5 a6 a7 a8 a9 a10) := by
 intro a0 a1 a2 a3 a4 a5 a6 a7 a8 a9 a10 k
 unfold seg_Put.f
 repeat' first
   | (with_reducible exact octet_Put16.mono _ _ _)
   | (with_reducible exact octet_Put32.mono _ _ _)
   | (with_reducible exact seg_Check.mono _ _ _ _ _ _ _ _ _ _)
   | (with_reducible exact seg_Options.mono _ _ _ _ _ _ _ _ _ _)
   | (with_reducible exact LeO.refl _)
   | (with_reducible exact LeO.none _)
   | (with_reducible refine LeO.ite ?_ ?_)
   | (with_reducible refine LeO.bind ?_ (fun _ => ?_))
   | exact octet_Put16.mono _ _ _
   | exact octet_Put32.mono _ _ _
   | exact seg_Check.mono _ _ _ _ _ _ _ _ _ _
   | exact seg_Options.mono _ _ _ _ _ _ _ _ _ _
   | exact LeO.none _
   | refine LeO.ite ?_ ?_
   | refine LeO.bind ?_ (fun _ => ?_)
def seg_Put.T5 : Bool × List (List Nat × List Nat) := (true, [([], []), ([0], [0]), ([1], [1]), ([2], [2]), ([], []), ([4], [4]), ([5], [5]), ([3, 6, 3], [3, 6]), ([7, 7, 0, 1, 2, 3, 4, 5, 6, 7], [7])])
def seg_Put.B5 : List Nat := [0, 1, 3, 7, 0, 16, 48, 127, 255]
theorem seg_Put.tab5 : rtab .any (opsOf Try.f54 5) = seg_Put.T5 := by kernel_rfl
theorem seg_Put.bits5 : waitsOk seg_Put.T5.2 seg_Put.B5 = true := by kernel_rfl
def seg_Put.T6 : Bool × List (List Nat × List Nat) := (true, [([], []), ([], []), ([1], [1]), ([0, 2], [0, 2]), ([], []), ([4], [4]), ([3, 5, 3], [3, 5]), ([6, 6, 0, 1, 2, 3, 4, 5, 6], [0, 6])])
def seg_Put.B6 : List Nat := [0, 0, 2, 7, 0, 16, 63, 127]
theorem seg_Put.tab6 : rtab .any (opsOf Try.f54 6) = seg_Put.T6 := by kernel_rfl
theorem seg_Put.bits6 : waitsOk seg_Put.T6.2 seg_Put.B6 = true := by kernel_rfl
set_option maxHeartbeats 8000000 in
set_option maxRecDepth 100000 in
theorem seg_Put.calls (k : Nat) (a0 : Int) (a1 : Int) (a2_0 : Int) (a2_1 : Int) (a2_2 : Int) (a2_3 : Int) (a2_4 : Int) (a2_5 : Int) (a2_6 : Int) (a2_7 : Int) (A2_8 : Option Addr) (c2_8 : Nat) (l2_8 : List Int) (r1 : List Int) (r2 : Int) (w : World) (hr2_8 : Kd.C (Kd.int .u8) w A2_8 l2_8.length l2_8) (hc2_8 : l2_8.length ≤ c2_8) (h : seg_Put.f k a0 a1 a2_0 a2_1 a2_2 a2_3 a2_4 a2_5 a2_6 a2_7 l2_8 = some (r1, r2)) :
  Calls Try.prog 54 #[.int .u32 a0, .int .u32 a1, .agg #[.int .u16 a2_0, .int .u16 a2_1, .int .u32 a2_2, .int .u32 a2_3, .int .u8 a2_4, .int .u16 a2_5, .int .i64 a2_6, .int .i64 a2_7, .slice A2_8 l2_8.length c2_8]] w fun e w' => ∃ v0_ : Value, e = .returned (.tuple #[v0_, .int .i64 r2]) ∧ Kd.R (Kd.int .u8) 5 w' w.heap.size (fun _ => True) v0_ r1 ∧ Below w.heap.size w w' := by
 have hu26 := Try.underlying26
 have HR2_8 := Aside0.mk hr2_8
 have HC2_8 := Aside0.mk hc2_8
 clear hr2_8 hc2_8
 have HB := Aside0.mk (Below.refl w.heap.size w)
 have H : ((seg_Check.f k a2_0 a2_1 a2_2 a2_3 a2_4 a2_5 a2_6 a2_7 l2_8).bind fun t207 => (if t207 = 0 then ((seg_Options.f k a2_0 a2_1 a2_2 a2_3 a2_4 a2_5 a2_6 a2_7 l2_8).bind fun t208 => ((octet_Put16.f k ([] : List Int) (wrap64 (a2_0))).bind fun t211 => ((octet_Put16.f k t211 (wrap64 (a2_1))).bind fun t214 => ((octet_Put32.f k t214 a2_2).bind fun t217 => ((octet_Put32.f k t217 a2_3).bind fun t220 => ((some (([(wrap64 (16 * (wrap64 (5 + (wrap64 ((t208.length : Int) / 4)))))) % 256, a2_4] : List Int) : List Int)).bind fun y223 => (if t220.length + y223.length < 140737488355328 then ((octet_Put16.f k (t220 ++ y223) (wrap64 (a2_5))).bind fun t229 => ((some (([0, 0, 0, 0] : List Int) : List Int)).bind fun y232 => (if t229.length + y232.length < 140737488355328 then ((some (t229 ++ y232 : List Int)).bind fun y235 => (if y235.length + t208.length < 140737488355328 then ((some (y235 ++ t208 : List Int)).bind fun y238 => (if y238.length + l2_8.length < 140737488355328 then ((some (y238 ++ l2_8 : List Int)).bind fun y241 => ((sum_Of.f a0 a1 6 y241).bind fun t244 => ((octet_Put16.f k ([] : List Int) t244).bind fun t245 => (if 16 + t245.length ≤ y241.length ∧ 0 < t245.length then (some ((Go.Proofs.Ytilkbmjkjlbfmaa.HExt.over 16 y241 t245), 0)) else (none))))) else (none))) else (none))) else (none)))) else (none)))))))) else (some (([] : List Int), t207)))) = some (r1, r2) := h
 clear h
 replace H := Option.bind_eq_some_iff.mp H
 obtain ⟨t207, A40, H⟩ := H
 replace H : (if t207 = 0 then ((seg_Options.f k a2_0 a2_1 a2_2 a2_3 a2_4 a2_5 a2_6 a2_7 l2_8).bind fun t208 => ((octet_Put16.f k ([] : List Int) (wrap64 (a2_0))).bind fun t211 => ((octet_Put16.f k t211 (wrap64 (a2_1))).bind fun t214 => ((octet_Put32.f k t214 a2_2).bind fun t217 => ((octet_Put32.f k t217 a2_3).bind fun t220 => ((some (([(wrap64 (16 * (wrap64 (5 + (wrap64 ((t208.length : Int) / 4)))))) % 256, a2_4] : List Int) : List Int)).bind fun y223 => (if t220.length + y223.length < 140737488355328 then ((octet_Put16.f k (t220 ++ y223) (wrap64 (a2_5))).bind fun t229 => ((some (([0, 0, 0, 0] : List Int) : List Int)).bind fun y232 => (if t229.length + y232.length < 140737488355328 then ((some (t229 ++ y232 : List Int)).bind fun y235 => (if y235.length + t208.length < 140737488355328 then ((some (y235 ++ t208 : List Int)).bind fun y238 => (if y238.length + l2_8.length < 140737488355328 then ((some (y238 ++ l2_8 : List Int)).bind fun y241 => ((sum_Of.f a0 a1 6 y241).bind fun t244 => ((octet_Put16.f k ([] : List Int) t244).bind fun t245 => (if 16 + t245.length ≤ y241.length ∧ 0 < t245.length then (some ((Go.Proofs.Ytilkbmjkjlbfmaa.HExt.over 16 y241 t245), 0)) else (none))))) else (none))) else (none))) else (none)))) else (none)))))))) else (some (([] : List Int), t207))) = some (r1, r2) := H
 have A4 := Aside0.mk A40
 clear A40
 by_cases c5 : t207 = 0
 ·
  rw [if_pos c5] at H
  have c5b0 : (t207 == 0) = true := beq_iff_eq.mpr c5
  have c5b1 : (t207 != 0) = false := bne_eq_false_iff_eq.mpr c5
  clear c5
  replace H := Option.bind_eq_some_iff.mp H
  obtain ⟨t208, A60, H⟩ := H
  replace H : ((octet_Put16.f k ([] : List Int) (wrap64 (a2_0))).bind fun t211 => ((octet_Put16.f k t211 (wrap64 (a2_1))).bind fun t214 => ((octet_Put32.f k t214 a2_2).bind fun t217 => ((octet_Put32.f k t217 a2_3).bind fun t220 => ((some (([(wrap64 (16 * (wrap64 (5 + (wrap64 ((t208.length : Int) / 4)))))) % 256, a2_4] : List Int) : List Int)).bind fun y223 => (if t220.length + y223.length < 140737488355328 then ((octet_Put16.f k (t220 ++ y223) (wrap64 (a2_5))).bind fun t229 => ((some (([0, 0, 0, 0] : List Int) : List Int)).bind fun y232 => (if t229.length + y232.length < 140737488355328 then ((some (t229 ++ y232 : List Int)).bind fun y235 => (if y235.length + t208.length < 140737488355328 then ((some (y235 ++ t208 : List Int)).bind fun y238 => (if y238.length + l2_8.length < 140737488355328 then ((some (y238 ++ l2_8 : List Int)).bind fun y241 => ((sum_Of.f a0 a1 6 y241).bind fun t244 => ((octet_Put16.f k ([] : List Int) t244).bind fun t245 => (if 16 + t245.length ≤ y241.length ∧ 0 < t245.length then (some ((Go.Proofs.Ytilkbmjkjlbfmaa.HExt.over 16 y241 t245), 0)) else (none))))) else (none))) else (none))) else (none)))) else (none))))))) = some (r1, r2) := H
  have A6 := Aside0.mk A60
  clear A60
  replace H := Option.bind_eq_some_iff.mp H
  obtain ⟨t211, A70, H⟩ := H
  replace H : ((octet_Put16.f k t211 (wrap64 (a2_1))).bind fun t214 => ((octet_Put32.f k t214 a2_2).bind fun t217 => ((octet_Put32.f k t217 a2_3).bind fun t220 => ((some (([(wrap64 (16 * (wrap64 (5 + (wrap64 ((t208.length : Int) / 4)))))) % 256, a2_4] : List Int) : List Int)).bind fun y223 => (if t220.length + y223.length < 140737488355328 then ((octet_Put16.f k (t220 ++ y223) (wrap64 (a2_5))).bind fun t229 => ((some (([0, 0, 0, 0] : List Int) : List Int)).bind fun y232 => (if t229.length + y232.length < 140737488355328 then ((some (t229 ++ y232 : List Int)).bind fun y235 => (if y235.length + t208.length < 140737488355328 then ((some (y235 ++ t208 : List Int)).bind fun y238 => (if y238.length + l2_8.length < 140737488355328 then ((some (y238 ++ l2_8 : List Int)).bind fun y241 => ((sum_Of.f a0 a1 6 y241).bind fun t244 => ((octet_Put16.f k ([] : List Int) t244).bind fun t245 => (if 16 + t245.length ≤ y241.length ∧ 0 < t245.length then (some ((Go.Proofs.Ytilkbmjkjlbfmaa.HExt.over 16 y241 t245), 0)) else (none))))) else (none))) else (none))) else (none)))) else (none)))))) = some (r1, r2) := H
  have A7 := Aside0.mk A70
  clear A70
  replace H := Option.bind_eq_some_iff.mp H
  obtain ⟨t214, A80, H⟩ := H
  replace H : ((octet_Put32.f k t214 a2_2).bind fun t217 => ((octet_Put32.f k t217 a2_3).bind fun t220 => ((some (([(wrap64 (16 * (wrap64 (5 + (wrap64 ((t208.length : Int) / 4)))))) % 256, a2_4] : List Int) : List Int)).bind fun y223 => (if t220.length + y223.length < 140737488355328 then ((octet_Put16.f k (t220 ++ y223) (wrap64 (a2_5))).bind fun t229 => ((some (([0, 0, 0, 0] : List Int) : List Int)).bind fun y232 => (if t229.length + y232.length < 140737488355328 then ((some (t229 ++ y232 : List Int)).bind fun y235 => (if y235.length + t208.length < 140737488355328 then ((some (y235 ++ t208 : List Int)).bind fun y238 => (if y238.length + l2_8.length < 140737488355328 then ((some (y238 ++ l2_8 : List Int)).bind fun y241 => ((sum_Of.f a0 a1 6 y241).bind fun t244 => ((octet_Put16.f k ([] : List Int) t244).bind fun t245 => (if 16 + t245.length ≤ y241.length ∧ 0 < t245.length then (some ((Go.Proofs.Ytilkbmjkjlbfmaa.HExt.over 16 y241 t245), 0)) else (none))))) else (none))) else (none))) else (none)))) else (none))))) = some (r1, r2) := H
  have A8 := Aside0.mk A80
  clear A80
  replace H := Option.bind_eq_some_iff.mp H
  obtain ⟨t217, A90, H⟩ := H
  replace H : ((octet_Put32.f k t217 a2_3).bind fun t220 => ((some (([(wrap64 (16 * (wrap64 (5 + (wrap64 ((t208.length : Int) / 4)))))) % 256, a2_4] : List Int) : List Int)).bind fun y223 => (if t220.length + y223.length < 140737488355328 then ((octet_Put16.f k (t220 ++ y223) (wrap64 (a2_5))).bind fun t229 => ((some (([0, 0, 0, 0] : List Int) : List Int)).bind fun y232 => (if t229.length + y232.length < 140737488355328 then ((some (t229 ++ y232 : List Int)).bind fun y235 => (if y235.length + t208.length < 140737488355328 then ((some (y235 ++ t208 : List Int)).bind fun y238 => (if y238.length + l2_8.length < 140737488355328 then ((some (y238 ++ l2_8 : List Int)).bind fun y241 => ((sum_Of.f a0 a1 6 y241).bind fun t244 => ((octet_Put16.f k ([] : List Int) t244).bind fun t245 => (if 16 + t245.length ≤ y241.length ∧ 0 < t245.length then (some ((Go.Proofs.Ytilkbmjkjlbfmaa.HExt.over 16 y241 t245), 0)) else (none))))) else (none))) else (none))) else (none)))) else (none)))) = some (r1, r2) := H
  have A9 := Aside0.mk A90
  clear A90
  replace H := Option.bind_eq_some_iff.mp H
  obtain ⟨t220, A100, H⟩ := H
  replace H : ((some (([(wrap64 (16 * (wrap64 (5 + (wrap64 ((t208.length : Int) / 4)))))) % 256, a2_4] : List Int) : List Int)).bind fun y223 => (if t220.length + y223.length < 140737488355328 then ((octet_Put16.f k (t220 ++ y223) (wrap64 (a2_5))).bind fun t229 => ((some (([0, 0, 0, 0] : List Int) : List Int)).bind fun y232 => (if t229.length + y232.length < 140737488355328 then ((some (t229 ++ y232 : List Int)).bind fun y235 => (if y235.length + t208.length < 140737488355328 then ((some (y235 ++ t208 : List Int)).bind fun y238 => (if y238.length + l2_8.length < 140737488355328 then ((some (y238 ++ l2_8 : List Int)).bind fun y241 => ((sum_Of.f a0 a1 6 y241).bind fun t244 => ((octet_Put16.f k ([] : List Int) t244).bind fun t245 => (if 16 + t245.length ≤ y241.length ∧ 0 < t245.length then (some ((Go.Proofs.Ytilkbmjkjlbfmaa.HExt.over 16 y241 t245), 0)) else (none))))) else (none))) else (none))) else (none)))) else (none))) = some (r1, r2) := H
  have A10 := Aside0.mk A100
  clear A100
  obtain ⟨y223, hy223⟩ : ∃ y_ : List Int, y_ = (([(wrap64 (16 * (wrap64 (5 + (wrap64 ((t208.length : Int) / 4)))))) % 256, a2_4] : List Int)) := ⟨_, rfl⟩
  replace H : (if t220.length + y223.length < 140737488355328 then ((octet_Put16.f k (t220 ++ y223) (wrap64 (a2_5))).bind fun t229 => ((some (([0, 0, 0, 0] : List Int) : List Int)).bind fun y232 => (if t229.length + y232.length < 140737488355328 then ((some (t229 ++ y232 : List Int)).bind fun y235 => (if y235.length + t208.length < 140737488355328 then ((some (y235 ++ t208 : List Int)).bind fun y238 => (if y238.length + l2_8.length < 140737488355328 then ((some (y238 ++ l2_8 : List Int)).bind fun y241 => ((sum_Of.f a0 a1 6 y241).bind fun t244 => ((octet_Put16.f k ([] : List Int) t244).bind fun t245 => (if 16 + t245.length ≤ y241.length ∧ 0 < t245.length then (some ((Go.Proofs.Ytilkbmjkjlbfmaa.HExt.over 16 y241 t245), 0)) else (none))))) else (none))) else (none))) else (none)))) else (none)) = some (r1, r2) := by first | (rw [hy223]; with_reducible exact H) | (have H2_ := (Option.bind_some _ _).symm.trans H; rw [hy223]; with_reducible exact H2_) | (have H2_ := (Option.bind_some _ _).symm.trans H; with_reducible exact H2_) | with_reducible exact H | (rw [hy223]; exact H) | exact H
  have Ny223 := Aside0.mk hy223
  clear hy223
  by_cases c11 : t220.length + y223.length < 140737488355328
  ·
   rw [if_pos c11] at H
   have LMc11 := Aside0.mk c11
   clear c11
   obtain ⟨y226, hy226⟩ : ∃ y_ : List Int, y_ = (t220 ++ y223) := ⟨_, rfl⟩
   replace H : ((octet_Put16.f k y226 (wrap64 (a2_5))).bind fun t229 => ((some (([0, 0, 0, 0] : List Int) : List Int)).bind fun y232 => (if t229.length + y232.length < 140737488355328 then ((some (t229 ++ y232 : List Int)).bind fun y235 => (if y235.length + t208.length < 140737488355328 then ((some (y235 ++ t208 : List Int)).bind fun y238 => (if y238.length + l2_8.length < 140737488355328 then ((some (y238 ++ l2_8 : List Int)).bind fun y241 => ((sum_Of.f a0 a1 6 y241).bind fun t244 => ((octet_Put16.f k ([] : List Int) t244).bind fun t245 => (if 16 + t245.length ≤ y241.length ∧ 0 < t245.length then (some ((Go.Proofs.Ytilkbmjkjlbfmaa.HExt.over 16 y241 t245), 0)) else (none))))) else (none))) else (none))) else (none)))) = some (r1, r2) := by first | (rw [hy226]; with_reducible exact H) | (have H2_ := (Option.bind_some _ _).symm.trans H; rw [hy226]; with_reducible exact H2_) | (have H2_ := (Option.bind_some _ _).symm.trans H; with_reducible exact H2_) | with_reducible exact H | (rw [hy226]; exact H) | exact H
   have Ny226 := Aside0.mk hy226
   clear hy226
   replace H := Option.bind_eq_some_iff.mp H
   obtain ⟨t229, A120, H⟩ := H
   replace H : ((some (([0, 0, 0, 0] : List Int) : List Int)).bind fun y232 => (if t229.length + y232.length < 140737488355328 then ((some (t229 ++ y232 : List Int)).bind fun y235 => (if y235.length + t208.length < 140737488355328 then ((some (y235 ++ t208 : List Int)).bind fun y238 => (if y238.length + l2_8.length < 140737488355328 then ((some (y238 ++ l2_8 : List Int)).bind fun y241 => ((sum_Of.f a0 a1 6 y241).bind fun t244 => ((octet_Put16.f k ([] : List Int) t244).bind fun t245 => (if 16 + t245.length ≤ y241.length ∧ 0 < t245.length then (some ((Go.Proofs.Ytilkbmjkjlbfmaa.HExt.over 16 y241 t245), 0)) else (none))))) else (none))) else (none))) else (none))) = some (r1, r2) := H
   have A12 := Aside0.mk A120
   clear A120
   obtain ⟨y232, hy232⟩ : ∃ y_ : List Int, y_ = (([0, 0, 0, 0] : List Int)) := ⟨_, rfl⟩
   replace H : (if t229.length + y232.length < 140737488355328 then ((some (t229 ++ y232 : List Int)).bind fun y235 => (if y235.length + t208.length < 140737488355328 then ((some (y235 ++ t208 : List Int)).bind fun y238 => (if y238.length + l2_8.length < 140737488355328 then ((some (y238 ++ l2_8 : List Int)).bind fun y241 => ((sum_Of.f a0 a1 6 y241).bind fun t244 => ((octet_Put16.f k ([] : List Int) t244).bind fun t245 => (if 16 + t245.length ≤ y241.length ∧ 0 < t245.length then (some ((Go.Proofs.Ytilkbmjkjlbfmaa.HExt.over 16 y241 t245), 0)) else (none))))) else (none))) else (none))) else (none)) = some (r1, r2) := by first | (rw [hy232]; with_reducible exact H) | (have H2_ := (Option.bind_some _ _).symm.trans H; rw [hy232]; with_reducible exact H2_) | (have H2_ := (Option.bind_some _ _).symm.trans H; with_reducible exact H2_) | with_reducible exact H | (rw [hy232]; exact H) | exact H
   have Ny232 := Aside0.mk hy232
   clear hy232
   by_cases c13 : t229.length + y232.length < 140737488355328
   ·
    rw [if_pos c13] at H
    have LMc13 := Aside0.mk c13
    clear c13
    obtain ⟨y235, hy235⟩ : ∃ y_ : List Int, y_ = (t229 ++ y232) := ⟨_, rfl⟩
    replace H : (if y235.length + t208.length < 140737488355328 then ((some (y235 ++ t208 : List Int)).bind fun y238 => (if y238.length + l2_8.length < 140737488355328 then ((some (y238 ++ l2_8 : List Int)).bind fun y241 => ((sum_Of.f a0 a1 6 y241).bind fun t244 => ((octet_Put16.f k ([] : List Int) t244).bind fun t245 => (if 16 + t245.length ≤ y241.length ∧ 0 < t245.length then (some ((Go.Proofs.Ytilkbmjkjlbfmaa.HExt.over 16 y241 t245), 0)) else (none))))) else (none))) else (none)) = some (r1, r2) := by first | (rw [hy235]; with_reducible exact H) | (have H2_ := (Option.bind_some _ _).symm.trans H; rw [hy235]; with_reducible exact H2_) | (have H2_ := (Option.bind_some _ _).symm.trans H; with_reducible exact H2_) | with_reducible exact H | (rw [hy235]; exact H) | exact H
    have Ny235 := Aside0.mk hy235
    clear hy235
    by_cases c14 : y235.length + t208.length < 140737488355328
    ·
     rw [if_pos c14] at H
     have LMc14 := Aside0.mk c14
     clear c14
     obtain ⟨y238, hy238⟩ : ∃ y_ : List Int, y_ = (y235 ++ t208) := ⟨_, rfl⟩
     replace H : (if y238.length + l2_8.length < 140737488355328 then ((some (y238 ++ l2_8 : List Int)).bind fun y241 => ((sum_Of.f a0 a1 6 y241).bind fun t244 => ((octet_Put16.f k ([] : List Int) t244).bind fun t245 => (if 16 + t245.length ≤ y241.length ∧ 0 < t245.length then (some ((Go.Proofs.Ytilkbmjkjlbfmaa.HExt.over 16 y241 t245), 0)) else (none))))) else (none)) = some (r1, r2) := by first | (rw [hy238]; with_reducible exact H) | (have H2_ := (Option.bind_some _ _).symm.trans H; rw [hy238]; with_reducible exact H2_) | (have H2_ := (Option.bind_some _ _).symm.trans H; with_reducible exact H2_) | with_reducible exact H | (rw [hy238]; exact H) | exact H
     have Ny238 := Aside0.mk hy238
     clear hy238
     by_cases c15 : y238.length + l2_8.length < 140737488355328
     ·
      rw [if_pos c15] at H
      have LMc15 := Aside0.mk c15
      clear c15
      obtain ⟨y241, hy241⟩ : ∃ y_ : List Int, y_ = (y238 ++ l2_8) := ⟨_, rfl⟩
      replace H : ((sum_Of.f a0 a1 6 y241).bind fun t244 => ((octet_Put16.f k ([] : List Int) t244).bind fun t245 => (if 16 + t245.length ≤ y241.length ∧ 0 < t245.length then (some ((Go.Proofs.Ytilkbmjkjlbfmaa.HExt.over 16 y241 t245), 0)) else (none)))) = some (r1, r2) := by first | (rw [hy241]; with_reducible exact H) | (have H2_ := (Option.bind_some _ _).symm.trans H; rw [hy241]; with_reducible exact H2_) | (have H2_ := (Option.bind_some _ _).symm.trans H; with_reducible exact H2_) | with_reducible exact H | (rw [hy241]; exact H) | exact H
      have Ny241 := Aside0.mk hy241
      clear hy241
      replace H := Option.bind_eq_some_iff.mp H
      obtain ⟨t244, A160, H⟩ := H
      replace H : ((octet_Put16.f k ([] : List Int) t244).bind fun t245 => (if 16 + t245.length ≤ y241.length ∧ 0 < t245.length then (some ((Go.Proofs.Ytilkbmjkjlbfmaa.HExt.over 16 y241 t245), 0)) else (none))) = some (r1, r2) := H
      have A16 := Aside0.mk A160
      clear A160
      replace H := Option.bind_eq_some_iff.mp H
      obtain ⟨t245, A170, H⟩ := H
      replace H : (if 16 + t245.length ≤ y241.length ∧ 0 < t245.length then (some ((Go.Proofs.Ytilkbmjkjlbfmaa.HExt.over 16 y241 t245), 0)) else (none)) = some (r1, r2) := H
      have A17 := Aside0.mk A170
      clear A170
      by_cases c18 : 16 + t245.length ≤ y241.length ∧ 0 < t245.length
      ·
       rw [if_pos c18] at H
       have LMc18 := Aside0.mk c18
       clear c18
       obtain ⟨y248, hy248⟩ : ∃ y_ : List Int, y_ = (Go.Proofs.Ytilkbmjkjlbfmaa.HExt.over 16 y241 t245) := ⟨_, rfl⟩
       replace H : (some (y248, 0)) = some (r1, r2) := by first | (rw [hy248]; with_reducible exact H) | (have H2_ := (Option.bind_some _ _).symm.trans H; rw [hy248]; with_reducible exact H2_) | (have H2_ := (Option.bind_some _ _).symm.trans H; with_reducible exact H2_) | with_reducible exact H | (rw [hy248]; exact H) | exact H
       have Ny248 := Aside0.mk hy248
       clear hy248
       simp only [Option.some.injEq, Prod.mk.injEq] at H
       obtain ⟨rfl, rfl⟩ := H
       go_enter Try.func54, Try.ntmps54
       try go_wp2_with (first | ((with_reducible refine gate_dst (N := 5) rfl ?_); refine box_event ?hg (N := 5) ?hd (cs := #[.int .u16 a2_0, .int .u16 a2_1, .int .u32 a2_2, .int .u32 a2_3, .int .u8 a2_4, .int .u16 a2_5, .int .i64 a2_6, .int .i64 a2_7, .slice A2_8 l2_8.length c2_8]) (t := 26) ?hr ?_; (case hd => rfl); (case hg => rfl); (case hr => first | (go_simp; done) | (go_simp; rfl)); intro gb206 hg w19 hbox hb; have n0_ := Aside0.mk (below_step (by repeat (first | (with_reducible first | exact HB.out | apply below_alloc | apply pw_below_drewN | apply below_drew1) | exact HB.out)) hb); have n1_ := Aside0.mk (hbox); have n2_ := Aside0.mk ((by rw [hg]; exact (below_size (by repeat (first | (with_reducible first | exact HB.out | apply below_alloc | apply pw_below_drewN | apply below_drew1) | exact HB.out))) : w.heap.size ≤ gb206)); have n3_ := Aside0.mk ((by rw [hg]; exact (below_size (by repeat (first | (with_reducible first | exact HB.out | apply below_alloc | apply pw_below_drewN | apply below_drew1) | exact HB.out))) : w.heap.size ≤ gb206)); clear HB; have HB := n0_; have BK206 := n1_; have GW206 := n2_; have GE206 := n3_; clear n0_ n1_ n2_ n3_; clear hb hbox hg; have hcz20 := blk_cell BK206.out; have hfz20 := blk_frozen BK206.out; have hfz20_8 := blk_frozen BK206.out 8) | ((with_reducible refine gate_callee (f := 55) rfl ?_); refine goesL_ (some 12) rfl rfl Try.func55 (by kernel_rfl) rfl #[.agg #[.int .u16 a2_0, .int .u16 a2_1, .int .u32 a2_2, .int .u32 a2_3, .int .u8 a2_4, .int .u16 a2_5, .int .i64 a2_6, .int .i64 a2_7, .slice A2_8 l2_8.length c2_8]] rfl (by (try simp only [List.map_toArray, List.map_cons, List.map_nil]); first | done | rfl | (simp only [List.length_drop, List.length_take]; rfl) | (go_simp; done) | (go_simp; omega)) ?_; (with_reducible refine (seg_Check.calls k a2_0 a2_1 a2_2 a2_3 a2_4 a2_5 a2_6 a2_7 _ _ l2_8 t207 _ ?side1 ?side2 A4.out).mono ?_); (case side1 => repeat (first | exact (Kd.C_below HR2_8.out HB.out) | (with_reducible refine Kd.C_alloc ?_ _) | (with_reducible refine Kd.C_drewN ?_ _) | (with_reducible refine Kd.C_drew ?_))); (case side2 => exact HC2_8.out); rintro e w21 ⟨rfl, hb⟩; refine ⟨_, rfl, ?_⟩; have n0_ := Aside0.mk (blk_below (g := gb206) (o := .cells #[.int .u16 a2_0, .int .u16 a2_1, .int .u32 a2_2, .int .u32 a2_3, .int .u8 a2_4, .int .u16 a2_5, .int .i64 a2_6, .int .i64 a2_7, .slice A2_8 l2_8.length c2_8] 26 (0, 0)) (by (with_reducible repeat (first | refine blk_drewN ?_ _ | refine blk_drew ?_ | refine blk_alloc ?_ _)); exact BK206.out) hb); have n1_ := Aside0.mk (below_step (by repeat (first | (with_reducible first | exact HB.out | apply below_alloc | apply pw_below_drewN | apply below_drew1 | refine below_set ?_ GE206.out) | exact HB.out)) hb); clear BK206; clear HB; have BK206 := n0_; have HB := n1_; clear n0_ n1_; (try clear hb); (try clear hb2); (try clear hk); (try clear hi); have hcz22 := blk_cell BK206.out; have hfz22 := blk_frozen BK206.out; have hfz22_8 := blk_frozen BK206.out 8) | ((with_reducible refine gate_callee (f := 38) rfl ?_); refine goesL_ (some 17) rfl rfl Try.func38 (by kernel_rfl) rfl #[.agg #[.int .u16 a2_0, .int .u16 a2_1, .int .u32 a2_2, .int .u32 a2_3, .int .u8 a2_4, .int .u16 a2_5, .int .i64 a2_6, .int .i64 a2_7, .slice A2_8 l2_8.length c2_8]] rfl (by (try simp only [List.map_toArray, List.map_cons, List.map_nil]); first | done | rfl | (simp only [List.length_drop, List.length_take]; rfl) | (go_simp; done) | (go_simp; omega)) ?_; (with_reducible refine (seg_Options.calls k a2_0 a2_1 a2_2 a2_3 a2_4 a2_5 a2_6 a2_7 _ _ l2_8 t208 _ ?side1 ?side2 A6.out).mono ?_); (case side1 => repeat (first | exact (Kd.C_below HR2_8.out HB.out) | (with_reducible refine Kd.C_alloc ?_ _) | (with_reducible refine Kd.C_drewN ?_ _) | (with_reducible refine Kd.C_drew ?_))); (case side2 => exact HC2_8.out); rintro e w23 ⟨v209, rfl, ho0, hb⟩; refine ⟨_, rfl, ?_⟩; have n0_ := Aside0.mk (Kd.R_lower ho0 (below_size (by repeat (first | (with_reducible first | exact HB.out | apply below_alloc | apply pw_below_drewN | apply below_drew1 | refine below_set ?_ GE206.out) | exact HB.out)))); have n1_ := Aside0.mk (blk_below (g := gb206) (o := .cells #[.int .u16 a2_0, .int .u16 a2_1, .int .u32 a2_2, .int .u32 a2_3, .int .u8 a2_4, .int .u16 a2_5, .int .i64 a2_6, .int .i64 a2_7, .slice A2_8 l2_8.length c2_8] 26 (0, 0)) (by (with_reducible repeat (first | refine blk_drewN ?_ _ | refine blk_drew ?_ | refine blk_alloc ?_ _)); exact BK206.out) hb); have n2_ := Aside0.mk (below_step (by repeat (first | (with_reducible first | exact HB.out | apply below_alloc | apply pw_below_drewN | apply below_drew1 | refine below_set ?_ GE206.out) | exact HB.out)) hb); clear BK206; clear HB; have HO210 := n0_; have BK206 := n1_; have HB := n2_; clear n0_ n1_ n2_; (try clear hb); (try clear hb2); (try clear hk); (try clear hi); (try clear ho0)))
       have n0_ := Aside0.mk (Kd.R_drew HO210.out)
       have n1_ := Aside0.mk (blk_drew BK206.out)
       have n2_ := Aside0.mk (below_drew1 HB.out)
       clear HO210
       clear BK206
       clear HB
       have HO210 := n0_
       have BK206 := n1_
       have HB := n2_
       clear n0_ n1_ n2_
       refine start_ (n := 9) (S := fun w' => w'.cell? ⟨gb206, 0, none⟩ = some (.int .u16 a2_0) ∧ w'.cell? ⟨gb206, 1, none⟩ = some (.int .u16 a2_1) ∧ w'.cell? ⟨gb206, 2, none⟩ = some (.int .u32 a2_2) ∧ w'.cell? ⟨gb206, 3, none⟩ = some (.int .u32 a2_3) ∧ w'.cell? ⟨gb206, 4, none⟩ = some (.int .u8 a2_4) ∧ w'.cell? ⟨gb206, 5, none⟩ = some (.int .u16 a2_5) ∧ w'.cell? ⟨gb206, 6, none⟩ = some (.int .i64 a2_6) ∧ w'.cell? ⟨gb206, 7, none⟩ = some (.int .i64 a2_7) ∧ w'.cell? ⟨gb206, 8, none⟩ = some (.slice A2_8 l2_8.length c2_8)) (ds := []) #[false, false, false, false, false, false, false, false, false] (by kernel_rfl) rfl rfl ⟨(blk_cell BK206.out 0).trans rfl, (blk_cell BK206.out 1).trans rfl, (blk_cell BK206.out 2).trans rfl, (blk_cell BK206.out 3).trans rfl, (blk_cell BK206.out 4).trans rfl, (blk_cell BK206.out 5).trans rfl, (blk_cell BK206.out 6).trans rfl, (blk_cell BK206.out 7).trans rfl, (blk_cell BK206.out 8).trans rfl⟩ (fun hHeld => ?_); refine with_tabW seg_Put.tab5 seg_Put.bits5 (fun HT_ HW_ => ?_)
       generalize w23.drew = w24 at HO210 BK206 HB hHeld ⊢
       refine pure_ (i := 0) (N := some 18) (v := ?_) (a' := ?_) #[true, false, false, false, false, false, false, false, false] rfl rfl (any_of HT_.out (by kernel_rfl)) (fun _ _ _ h => h) (Or.inl ⟨by rfl, ?_⟩) ?_ ?_
       rotate_left
       ·
        intro w'
        go_simp
        with_reducible rfl
       rotate_left
       ·
        simp only [Act.put, List.setIfInBounds_toArray, List.set_cons_zero, List.set_cons_succ, i64_w, i32_w]
        rfl
       refine pure_ (i := 4) (N := some 22) (v := ?_) (a' := ?_) #[true, false, false, false, true, false, false, false, false] rfl rfl (any_of HT_.out (by kernel_rfl)) (fun _ _ _ h => h) (Or.inl ⟨by rfl, ?_⟩) ?_ ?_
       rotate_left
       ·
        intro w'
        go_simp
        with_reducible rfl
       rotate_left
       ·
        simp only [Act.put, List.setIfInBounds_toArray, List.set_cons_zero, List.set_cons_succ, i64_w, i32_w]
        rfl
       refine take_ (i := 1) (N := some 19) (v := ?_) (a' := ?_) #[true, true, false, false, true, false, false, false, false] rfl rfl (take_ofW HT_.out HW_.out (by kernel_rfl)) (fun _ _ _ h => h) (Or.inl ⟨by rfl, ?_⟩) hHeld ?_ ?_
       rotate_left
       ·
        rintro w' ⟨s0, s1, s2, s3, s4, s5, s6, s7, s8⟩
        go_simp
        with_reducible rfl
       rotate_left
       ·
        simp only [Act.put, List.setIfInBounds_toArray, List.set_cons_zero, List.set_cons_succ, i64_w, i32_w]
        rfl
       refine pure_ (i := 2) (N := some 20) (v := ?_) (a' := ?_) #[true, true, true, false, true, false, false, false, false] rfl rfl (any_of HT_.out (by kernel_rfl)) (fun _ _ _ h => h) (Or.inl ⟨by rfl, ?_⟩) ?_ ?_
       rotate_left
       ·
        intro w'
        go_simp
        with_reducible rfl
       rotate_left
       ·
        simp only [Act.put, List.setIfInBounds_toArray, List.set_cons_zero, List.set_cons_succ, i64_w, i32_w]
        rfl
       refine take_ (i := 5) (N := some 23) (v := ?_) (a' := ?_) #[true, true, true, false, true, true, false, false, false] rfl rfl (take_ofW HT_.out HW_.out (by kernel_rfl)) (fun _ _ _ h => h) (Or.inl ⟨by rfl, ?_⟩) hHeld ?_ ?_
       rotate_left
       ·
        rintro w' ⟨s0, s1, s2, s3, s4, s5, s6, s7, s8⟩
        go_simp
        with_reducible rfl
       rotate_left
       ·
        simp only [Act.put, List.setIfInBounds_toArray, List.set_cons_zero, List.set_cons_succ, i64_w, i32_w]
        rfl
       refine pure_ (i := 6) (N := some 24) (v := ?_) (a' := ?_) #[true, true, true, false, true, true, true, false, false] rfl rfl (any_of HT_.out (by kernel_rfl)) (fun _ _ _ h => h) (Or.inl ⟨by rfl, ?_⟩) ?_ ?_
       rotate_left
       ·
        intro w'
        go_simp
        with_reducible rfl
       rotate_left
       ·
        simp only [Act.put, List.setIfInBounds_toArray, List.set_cons_zero, List.set_cons_succ, i64_w, i32_w]
        rfl
       refine one_ (i := 3) (N := some 21) #[true, true, true, true, true, true, true, false, false] rfl rfl (one_of HT_.out (by kernel_rfl)) (by decide) (fun K hK => ?_)
       refine goes_ Try.func63 (by kernel_rfl) rfl #[.slice none 0 0, .int .i64 (wrap64 (a2_0))] (by rfl) rfl rfl (by (try simp only [List.map_toArray, List.map_cons, List.map_nil]); first | done | rfl | (simp only [List.length_drop, List.length_take]; rfl) | (go_simp; done) | (go_simp; omega)) ?_
       refine (octet_Put16.calls k _ _ ([] : List Int) (wrap64 (a2_0)) t211 _ ?side1 ?side2 A7.out).mono ?_
       (case side1 => exact Kd.C_nil _ _)
       (case side2 => exact Nat.le_refl _)
       rintro e w25 ⟨v212, rfl, ho0, hb⟩
       refine ⟨_, rfl, ?_⟩
       have n0_ := Aside0.mk (Kd.R_elder' (by (with_reducible repeat (first | apply Kd.R_alloc | apply Kd.R_drewN | apply Kd.R_drew)); exact HO210.out) (Kd.R_base ho0) hb)
       have n1_ := Aside0.mk (Kd.R_lower (Kd.R_new' ho0 (Kd.R_lt (by (with_reducible repeat (first | apply Kd.R_alloc | apply Kd.R_drewN | apply Kd.R_drew)); exact HO210.out))) (below_size (by repeat (first | (with_reducible first | exact HB.out | apply below_alloc | apply pw_below_drewN | apply below_drew1 | refine below_set ?_ GE206.out) | exact HB.out))))
       have n2_ := Aside0.mk (blk_below (g := gb206) (o := .cells #[.int .u16 a2_0, .int .u16 a2_1, .int .u32 a2_2, .int .u32 a2_3, .int .u8 a2_4, .int .u16 a2_5, .int .i64 a2_6, .int .i64 a2_7, .slice A2_8 l2_8.length c2_8] 26 (0, 0)) (by (with_reducible repeat (first | refine blk_drewN ?_ _ | refine blk_drew ?_ | refine blk_alloc ?_ _)); exact BK206.out) hb)
       have n3_ := Aside0.mk (below_step (by repeat (first | (with_reducible first | exact HB.out | apply below_alloc | apply pw_below_drewN | apply below_drew1 | refine below_set ?_ GE206.out) | exact HB.out)) hb)
       clear HO210
       clear BK206
       clear HB
       have HO210 := n0_
       have HO213 := n1_
       have BK206 := n2_
       have HB := n3_
       clear n0_ n1_ n2_ n3_
       (try clear hb)
       (try clear hb2)
       (try clear hk)
       (try clear hi)
       (try clear ho0)
       obtain ⟨Ao26, co26, eo26⟩ := Kd.R_slice HO213.out
       (first | subst eo26 | (injection eo26 with f1_ f2_ f3_; have f4_ := f1_.symm; have f5_ := f3_.symm; clear f1_ f2_ f3_; subst f4_; subst f5_))
       refine hK.out _ _ ⟨(blk_cell BK206.out 0).trans rfl, (blk_cell BK206.out 1).trans rfl, (blk_cell BK206.out 2).trans rfl, (blk_cell BK206.out 3).trans rfl, (blk_cell BK206.out 4).trans rfl, (blk_cell BK206.out 5).trans rfl, (blk_cell BK206.out 6).trans rfl, (blk_cell BK206.out 7).trans rfl, (blk_cell BK206.out 8).trans rfl⟩ (fun hHeld => ?_)
       clear hK K
       refine norm_ (a' := ?_) ?_ ?_
       rotate_left
       ·
        show Act.put _ (some 21) _ = _
        simp only [Act.put, List.setIfInBounds_toArray, List.set_cons_zero, List.set_cons_succ, i64_w, i32_w]
        rfl
       refine one_ (i := 7) (N := some 25) #[true, true, true, true, true, true, true, true, false] rfl rfl (one_of HT_.out (by kernel_rfl)) (by decide) (fun K hK => ?_)
       refine goes_ Try.func63 (by kernel_rfl) rfl #[.slice Ao26 t211.length co26, .int .i64 (wrap64 (a2_1))] (by rfl) rfl rfl (by (try simp only [List.map_toArray, List.map_cons, List.map_nil]); first | done | rfl | (simp only [List.length_drop, List.length_take]; rfl) | (go_simp; done) | (go_simp; omega)) ?_
       with_reducible refine (octet_Put16.calls k _ _ t211 (wrap64 (a2_1)) t214 _ ?side1 ?side2 A8.out).mono ?_
       (case side1 => repeat (first | exact (Kd.R_reads' HO213.out).2.2 | (with_reducible refine Kd.C_alloc ?_ _) | (with_reducible refine Kd.C_drewN ?_ _) | (with_reducible refine Kd.C_drew ?_)))
       (case side2 => exact (Kd.R_reads' HO213.out).2.1)
       rintro e w27 ⟨v215, rfl, ho0, hb⟩
       refine ⟨_, rfl, ?_⟩
       have n0_ := Aside0.mk (Kd.R_elder' (by (with_reducible repeat (first | apply Kd.R_alloc | apply Kd.R_drewN | apply Kd.R_drew)); exact HO210.out) (Kd.R_base ho0) hb)
       have n1_ := Aside0.mk (Kd.R_elder' (by (with_reducible repeat (first | apply Kd.R_alloc | apply Kd.R_drewN | apply Kd.R_drew)); exact HO213.out) (Kd.R_base ho0) hb)
       have n2_ := Aside0.mk (Kd.R_lower (Kd.R_new' (Kd.R_new' ho0 (Kd.R_lt (by (with_reducible repeat (first | apply Kd.R_alloc | apply Kd.R_drewN | apply Kd.R_drew)); exact HO210.out))) (Kd.R_lt (by (with_reducible repeat (first | apply Kd.R_alloc | apply Kd.R_drewN | apply Kd.R_drew)); exact HO213.out))) (below_size (by repeat (first | (with_reducible first | exact HB.out | apply below_alloc | apply pw_below_drewN | apply below_drew1 | refine below_set ?_ GE206.out) | exact HB.out))))
       have n3_ := Aside0.mk (blk_below (g := gb206) (o := .cells #[.int .u16 a2_0, .int .u16 a2_1, .int .u32 a2_2, .int .u32 a2_3, .int .u8 a2_4, .int .u16 a2_5, .int .i64 a2_6, .int .i64 a2_7, .slice A2_8 l2_8.length c2_8] 26 (0, 0)) (by (with_reducible repeat (first | refine blk_drewN ?_ _ | refine blk_drew ?_ | refine blk_alloc ?_ _)); exact BK206.out) hb)
       have n4_ := Aside0.mk (below_step (by repeat (first | (with_reducible first | exact HB.out | apply below_alloc | apply pw_below_drewN | apply below_drew1 | refine below_set ?_ GE206.out) | exact HB.out)) hb)
       clear HO210
       clear HO213
       clear BK206
       clear HB
       have HO210 := n0_
       have HO213 := n1_
       have HO216 := n2_
       have BK206 := n3_
       have HB := n4_
       clear n0_ n1_ n2_ n3_ n4_
       (try clear hb)
       (try clear hb2)
       (try clear hk)
       (try clear hi)
       (try clear ho0)
       refine hK.out _ _ ⟨(blk_cell BK206.out 0).trans rfl, (blk_cell BK206.out 1).trans rfl, (blk_cell BK206.out 2).trans rfl, (blk_cell BK206.out 3).trans rfl, (blk_cell BK206.out 4).trans rfl, (blk_cell BK206.out 5).trans rfl, (blk_cell BK206.out 6).trans rfl, (blk_cell BK206.out 7).trans rfl, (blk_cell BK206.out 8).trans rfl⟩ (fun hHeld => ?_)
       clear hK K
       refine norm_ (a' := ?_) ?_ ?_
       rotate_left
       ·
        show Act.put _ (some 25) _ = _
        simp only [Act.put, List.setIfInBounds_toArray, List.set_cons_zero, List.set_cons_succ, i64_w, i32_w]
        rfl
       refine pure_ (i := 8) (N := some 10) (v := ?_) (a' := ?_) #[true, true, true, true, true, true, true, true, true] rfl rfl (any_of HT_.out (by kernel_rfl)) (fun _ _ _ h => h) (Or.inl ⟨by rfl, ?_⟩) ?_ ?_
       rotate_left
       ·
        intro w'
        go_simp
        with_reducible rfl
       rotate_left
       ·
        simp only [Act.put, List.setIfInBounds_toArray, List.set_cons_zero, List.set_cons_succ, i64_w, i32_w]
        rfl
       refine done_ (done_of HT_.out (by kernel_rfl)) ?_
       try go_wp2
       have n0_ := Aside0.mk (Kd.R_drew HO210.out)
       have n1_ := Aside0.mk (Kd.R_drew HO213.out)
       have n2_ := Aside0.mk (Kd.R_drew HO216.out)
       have n3_ := Aside0.mk (blk_drew BK206.out)
       have n4_ := Aside0.mk (below_drew1 HB.out)
       clear HO210
       clear HO213
       clear HO216
       clear BK206
       clear HB
       have HO210 := n0_
       have HO213 := n1_
       have HO216 := n2_
       have BK206 := n3_
       have HB := n4_
       clear n0_ n1_ n2_ n3_ n4_
       obtain ⟨Ao29, co29, eo29⟩ := Kd.R_slice HO216.out
       (first | subst eo29 | (injection eo29 with f1_ f2_ f3_; have f4_ := f1_.symm; have f5_ := f3_.symm; clear f1_ f2_ f3_; subst f4_; subst f5_))
       refine start_ (n := 8) (S := fun w' => w'.cell? ⟨gb206, 0, none⟩ = some (.int .u16 a2_0) ∧ w'.cell? ⟨gb206, 1, none⟩ = some (.int .u16 a2_1) ∧ w'.cell? ⟨gb206, 2, none⟩ = some (.int .u32 a2_2) ∧ w'.cell? ⟨gb206, 3, none⟩ = some (.int .u32 a2_3) ∧ w'.cell? ⟨gb206, 4, none⟩ = some (.int .u8 a2_4) ∧ w'.cell? ⟨gb206, 5, none⟩ = some (.int .u16 a2_5) ∧ w'.cell? ⟨gb206, 6, none⟩ = some (.int .i64 a2_6) ∧ w'.cell? ⟨gb206, 7, none⟩ = some (.int .i64 a2_7) ∧ w'.cell? ⟨gb206, 8, none⟩ = some (.slice A2_8 l2_8.length c2_8)) (ds := []) #[false, false, false, false, false, false, false, false] (by kernel_rfl) rfl rfl ⟨(blk_cell BK206.out 0).trans rfl, (blk_cell BK206.out 1).trans rfl, (blk_cell BK206.out 2).trans rfl, (blk_cell BK206.out 3).trans rfl, (blk_cell BK206.out 4).trans rfl, (blk_cell BK206.out 5).trans rfl, (blk_cell BK206.out 6).trans rfl, (blk_cell BK206.out 7).trans rfl, (blk_cell BK206.out 8).trans rfl⟩ (fun hHeld => ?_); refine with_tabW seg_Put.tab6 seg_Put.bits6 (fun HT_ HW_ => ?_)
       generalize w27.drew = w28 at HO210 HO213 HO216 BK206 HB hHeld ⊢
       refine pure_ (i := 0) (N := some 26) (v := ?_) (a' := ?_) #[true, false, false, false, false, false, false, false] rfl rfl (any_of HT_.out (by kernel_rfl)) (fun _ _ _ h => h) (Or.inl ⟨by rfl, ?_⟩) ?_ ?_
       rotate_left
       ·
        intro w'
        go_simp
        with_reducible rfl
       rotate_left
       ·
        simp only [Act.put, List.setIfInBounds_toArray, List.set_cons_zero, List.set_cons_succ, i64_w, i32_w]
        rfl
       refine pure_ (i := 1) (N := some 27) (v := ?_) (a' := ?_) #[true, true, false, false, false, false, false, false] rfl rfl (any_of HT_.out (by kernel_rfl)) (fun _ _ _ h => h) (Or.inl ⟨by rfl, ?_⟩) ?_ ?_
       rotate_left
       ·
        intro w'
        go_simp
        with_reducible rfl
       rotate_left
       ·
        simp only [Act.put, List.setIfInBounds_toArray, List.set_cons_zero, List.set_cons_succ, i64_w, i32_w]
        rfl
       refine pure_ (i := 4) (N := some 30) (v := ?_) (a' := ?_) #[true, true, false, false, true, false, false, false] rfl rfl (any_of HT_.out (by kernel_rfl)) (fun _ _ _ h => h) (Or.inl ⟨by rfl, ?_⟩) ?_ ?_
       rotate_left
       ·
        intro w'
        go_simp
        with_reducible rfl
       rotate_left
       ·
        simp only [Act.put, List.setIfInBounds_toArray, List.set_cons_zero, List.set_cons_succ, i64_w, i32_w]
        rfl
       refine take_ (i := 2) (N := some 28) (v := ?_) (a' := ?_) #[true, true, true, false, true, false, false, false] rfl rfl (take_ofW HT_.out HW_.out (by kernel_rfl)) (fun _ _ _ h => h) (Or.inl ⟨by rfl, ?_⟩) hHeld ?_ ?_
       rotate_left
       ·
        rintro w' ⟨s0, s1, s2, s3, s4, s5, s6, s7, s8⟩
        go_simp
        with_reducible rfl
       rotate_left
       ·
        simp only [Act.put, List.setIfInBounds_toArray, List.set_cons_zero, List.set_cons_succ, i64_w, i32_w]
        rfl
       refine take_ (i := 5) (N := some 31) (v := ?_) (a' := ?_) #[true, true, true, false, true, true, false, false] rfl rfl (take_ofW HT_.out HW_.out (by kernel_rfl)) (fun _ _ _ h => h) (Or.inl ⟨by rfl, ?_⟩) hHeld ?_ ?_
       rotate_left
       ·
        rintro w' ⟨s0, s1, s2, s3, s4, s5, s6, s7, s8⟩
        go_simp
        with_reducible rfl
       rotate_left
       ·
        simp only [Act.put, List.setIfInBounds_toArray, List.set_cons_zero, List.set_cons_succ, i64_w, i32_w]
        rfl
       refine one_ (i := 3) (N := some 29) #[true, true, true, true, true, true, false, false] rfl rfl (one_of HT_.out (by kernel_rfl)) (by decide) (fun K hK => ?_)
       refine goes_ Try.func75 (by kernel_rfl) rfl #[.slice Ao29 t214.length co29, .int .u32 a2_2] (by rfl) rfl rfl (by (try simp only [List.map_toArray, List.map_cons, List.map_nil]); first | done | rfl | (simp only [List.length_drop, List.length_take]; rfl) | (go_simp; done) | (go_simp; omega)) ?_
       with_reducible refine (octet_Put32.calls k _ _ t214 a2_2 t217 _ ?side1 ?side2 A9.out).mono ?_
       (case side1 => repeat (first | exact (Kd.R_reads' HO216.out).2.2 | (with_reducible refine Kd.C_alloc ?_ _) | (with_reducible refine Kd.C_drewN ?_ _) | (with_reducible refine Kd.C_drew ?_)))
       (case side2 => exact (Kd.R_reads' HO216.out).2.1)
       rintro e w30 ⟨v218, rfl, ho0, hb⟩
       refine ⟨_, rfl, ?_⟩
       have n0_ := Aside0.mk (Kd.R_elder' (by (with_reducible repeat (first | apply Kd.R_alloc | apply Kd.R_drewN | apply Kd.R_drew)); exact HO210.out) (Kd.R_base ho0) hb)
       have n1_ := Aside0.mk (Kd.R_elder' (by (with_reducible repeat (first | apply Kd.R_alloc | apply Kd.R_drewN | apply Kd.R_drew)); exact HO213.out) (Kd.R_base ho0) hb)
       have n2_ := Aside0.mk (Kd.R_elder' (by (with_reducible repeat (first | apply Kd.R_alloc | apply Kd.R_drewN | apply Kd.R_drew)); exact HO216.out) (Kd.R_base ho0) hb)
       have n3_ := Aside0.mk (Kd.R_lower (Kd.R_new' (Kd.R_new' (Kd.R_new' ho0 (Kd.R_lt (by (with_reducible repeat (first | apply Kd.R_alloc | apply Kd.R_drewN | apply Kd.R_drew)); exact HO210.out))) (Kd.R_lt (by (with_reducible repeat (first | apply Kd.R_alloc | apply Kd.R_drewN | apply Kd.R_drew)); exact HO213.out))) (Kd.R_lt (by (with_reducible repeat (first | apply Kd.R_alloc | apply Kd.R_drewN | apply Kd.R_drew)); exact HO216.out))) (below_size (by repeat (first | (with_reducible first | exact HB.out | apply below_alloc | apply pw_below_drewN | apply below_drew1 | refine below_set ?_ GE206.out) | exact HB.out))))
       have n4_ := Aside0.mk (blk_below (g := gb206) (o := .cells #[.int .u16 a2_0, .int .u16 a2_1, .int .u32 a2_2, .int .u32 a2_3, .int .u8 a2_4, .int .u16 a2_5, .int .i64 a2_6, .int .i64 a2_7, .slice A2_8 l2_8.length c2_8] 26 (0, 0)) (by (with_reducible repeat (first | refine blk_drewN ?_ _ | refine blk_drew ?_ | refine blk_alloc ?_ _)); exact BK206.out) hb)
       have n5_ := Aside0.mk (below_step (by repeat (first | (with_reducible first | exact HB.out | apply below_alloc | apply pw_below_drewN | apply below_drew1 | refine below_set ?_ GE206.out) | exact HB.out)) hb)
       clear HO210
       clear HO213
       clear HO216
       clear BK206
       clear HB
       have HO210 := n0_
       have HO213 := n1_
       have HO216 := n2_
       have HO219 := n3_
       have BK206 := n4_
       have HB := n5_
       clear n0_ n1_ n2_ n3_ n4_ n5_
       (try clear hb)
       (try clear hb2)
       (try clear hk)
       (try clear hi)
       (try clear ho0)
       obtain ⟨Ao31, co31, eo31⟩ := Kd.R_slice HO219.out
       (first | subst eo31 | (injection eo31 with f1_ f2_ f3_; have f4_ := f1_.symm; have f5_ := f3_.symm; clear f1_ f2_ f3_; subst f4_; subst f5_))
       refine hK.out _ _ ⟨(blk_cell BK206.out 0).trans rfl, (blk_cell BK206.out 1).trans rfl, (blk_cell BK206.out 2).trans rfl, (blk_cell BK206.out 3).trans rfl, (blk_cell BK206.out 4).trans rfl, (blk_cell BK206.out 5).trans rfl, (blk_cell BK206.out 6).trans rfl, (blk_cell BK206.out 7).trans rfl, (blk_cell BK206.out 8).trans rfl⟩ (fun hHeld => ?_)
       clear hK K
       refine norm_ (a' := ?_) ?_ ?_
       rotate_left
       ·
        show Act.put _ (some 29) _ = _
        simp only [Act.put, List.setIfInBounds_toArray, List.set_cons_zero, List.set_cons_succ, i64_w, i32_w]
        rfl
       refine one_ (i := 6) (N := some 32) #[true, true, true, true, true, true, true, false] rfl rfl (one_of HT_.out (by kernel_rfl)) (by decide) (fun K hK => ?_)
       refine goes_ Try.func75 (by kernel_rfl) rfl #[.slice Ao31 t217.length co31, .int .u32 a2_3] (by rfl) rfl rfl (by (try simp only [List.map_toArray, List.map_cons, List.map_nil]); first | done | rfl | (simp only [List.length_drop, List.length_take]; rfl) | (go_simp; done) | (go_simp; omega)) ?_
       with_reducible refine (octet_Put32.calls k _ _ t217 a2_3 t220 _ ?side1 ?side2 A10.out).mono ?_
       (case side1 => repeat (first | exact (Kd.R_reads' HO219.out).2.2 | (with_reducible refine Kd.C_alloc ?_ _) | (with_reducible refine Kd.C_drewN ?_ _) | (with_reducible refine Kd.C_drew ?_)))
       (case side2 => exact (Kd.R_reads' HO219.out).2.1)
       rintro e w32 ⟨v221, rfl, ho0, hb⟩
       refine ⟨_, rfl, ?_⟩
       have n0_ := Aside0.mk (Kd.R_elder' (by (with_reducible repeat (first | apply Kd.R_alloc | apply Kd.R_drewN | apply Kd.R_drew)); exact HO210.out) (Kd.R_base ho0) hb)
       have n1_ := Aside0.mk (Kd.R_elder' (by (with_reducible repeat (first | apply Kd.R_alloc | apply Kd.R_drewN | apply Kd.R_drew)); exact HO213.out) (Kd.R_base ho0) hb)
       have n2_ := Aside0.mk (Kd.R_elder' (by (with_reducible repeat (first | apply Kd.R_alloc | apply Kd.R_drewN | apply Kd.R_drew)); exact HO216.out) (Kd.R_base ho0) hb)
       have n3_ := Aside0.mk (Kd.R_elder' (by (with_reducible repeat (first | apply Kd.R_alloc | apply Kd.R_drewN | apply Kd.R_drew)); exact HO219.out) (Kd.R_base ho0) hb)
       have n4_ := Aside0.mk (Kd.R_lower (Kd.R_new' (Kd.R_new' (Kd.R_new' (Kd.R_new' ho0 (Kd.R_lt (by (with_reducible repeat (first | apply Kd.R_alloc | apply Kd.R_drewN | apply Kd.R_drew)); exact HO210.out))) (Kd.R_lt (by (with_reducible repeat (first | apply Kd.R_alloc | apply Kd.R_drewN | apply Kd.R_drew)); exact HO213.out))) (Kd.R_lt (by (with_reducible repeat (first | apply Kd.R_alloc | apply Kd.R_drewN | apply Kd.R_drew)); exact HO216.out))) (Kd.R_lt (by (with_reducible repeat (first | apply Kd.R_alloc | apply Kd.R_drewN | apply Kd.R_drew)); exact HO219.out))) (below_size (by repeat (first | (with_reducible first | exact HB.out | apply below_alloc | apply pw_below_drewN | apply below_drew1 | refine below_set ?_ GE206.out) | exact HB.out))))
       have n5_ := Aside0.mk (blk_below (g := gb206) (o := .cells #[.int .u16 a2_0, .int .u16 a2_1, .int .u32 a2_2, .int .u32 a2_3, .int .u8 a2_4, .int .u16 a2_5, .int .i64 a2_6, .int .i64 a2_7, .slice A2_8 l2_8.length c2_8] 26 (0, 0)) (by (with_reducible repeat (first | refine blk_drewN ?_ _ | refine blk_drew ?_ | refine blk_alloc ?_ _)); exact BK206.out) hb)
       have n6_ := Aside0.mk (below_step (by repeat (first | (with_reducible first | exact HB.out | apply below_alloc | apply pw_below_drewN | apply below_drew1 | refine below_set ?_ GE206.out) | exact HB.out)) hb)
       clear HO210
       clear HO213
       clear HO216
       clear HO219
       clear BK206
       clear HB
       have HO210 := n0_
       have HO213 := n1_
       have HO216 := n2_
       have HO219 := n3_
       have HO222 := n4_
       have BK206 := n5_
       have HB := n6_
       clear n0_ n1_ n2_ n3_ n4_ n5_ n6_
       (try clear hb)
       (try clear hb2)
       (try clear hk)
       (try clear hi)
       (try clear ho0)
       refine hK.out _ _ ⟨(blk_cell BK206.out 0).trans rfl, (blk_cell BK206.out 1).trans rfl, (blk_cell BK206.out 2).trans rfl, (blk_cell BK206.out 3).trans rfl, (blk_cell BK206.out 4).trans rfl, (blk_cell BK206.out 5).trans rfl, (blk_cell BK206.out 6).trans rfl, (blk_cell BK206.out 7).trans rfl, (blk_cell BK206.out 8).trans rfl⟩ (fun hHeld => ?_)
       clear hK K
       refine norm_ (a' := ?_) ?_ ?_
       rotate_left
       ·
        show Act.put _ (some 32) _ = _
        simp only [Act.put, List.setIfInBounds_toArray, List.set_cons_zero, List.set_cons_succ, i64_w, i32_w]
        rfl
       refine pure_ (i := 7) (N := some 10) (v := ?_) (a' := ?_) #[true, true, true, true, true, true, true, true] rfl rfl (any_of HT_.out (by kernel_rfl)) (fun _ _ _ h => h) (Or.inl ⟨by rfl, ?_⟩) ?_ ?_
       rotate_left
       ·
        intro w'
        go_simp
        with_reducible rfl
       rotate_left
       ·
        simp only [Act.put, List.setIfInBounds_toArray, List.set_cons_zero, List.set_cons_succ, i64_w, i32_w]
        rfl
       refine done_ (done_of HT_.out (by kernel_rfl)) ?_
       obtain ⟨Ao33, co33, eo33⟩ := Kd.R_slice HO210.out
       subst eo33
       have hcz34 := blk_cell BK206.out
       have hfz34 := blk_frozen BK206.out
       try go_wp2_with (first | ((with_reducible refine gate_dst (N := 42) rfl ?_); refine Kd.R_lit (Kd.int .u8) _ 5 ?hg (N := 42) ?hd (xs := ([(wrap64 (16 * (wrap64 (5 + (wrap64 ((t208.length : Int) / 4)))))) % 256, a2_4] : List Int)) (inner := [.int .u8 ((wrap64 (16 * (wrap64 (5 + (wrap64 ((t208.length : Int) / 4)))))) % 256), .int .u8 a2_4]) (ok := fun _ => True) (okp := fun _ => True) ?hr ?hp (fun _ hk => hk) trivial (Below.refl _ _) (Nat.le_refl _) (by simp) ?_; (case hd => rfl); (case hg => rfl); (case hr => first | (go_simp; done) | (go_simp; rfl)); (case hp => exact (Reps.one (show Kd.M (Kd.int .u8) _ _ _ ((wrap64 (16 * (wrap64 (5 + (wrap64 ((t208.length : Int) / 4)))))) % 256) [.int .u8 ((wrap64 (16 * (wrap64 (5 + (wrap64 ((t208.length : Int) / 4)))))) % 256)] from rfl) (Reps.one (show Kd.M (Kd.int .u8) _ _ _ a2_4 [.int .u8 a2_4] from rfl) (Reps.none _ _)))); intro v224 w35 ho36 hb hg_ hnew_; clear hg_ hnew_; (first | rw [← Ny223.out] at ho36 | (simp only [Int.reduceToNat] at ho36; rw [← Ny223.out] at ho36)); have n0_ := Aside0.mk (Kd.R_elder' (by (with_reducible repeat (first | apply Kd.R_alloc | apply Kd.R_drewN | apply Kd.R_drew)); exact HO210.out) (Kd.R_base ho36) hb); have n1_ := Aside0.mk (Kd.R_elder' (by (with_reducible repeat (first | apply Kd.R_alloc | apply Kd.R_drewN | apply Kd.R_drew)); exact HO213.out) (Kd.R_base ho36) hb); have n2_ := Aside0.mk (Kd.R_elder' (by (with_reducible repeat (first | apply Kd.R_alloc | apply Kd.R_drewN | apply Kd.R_drew)); exact HO216.out) (Kd.R_base ho36) hb); have n3_ := Aside0.mk (Kd.R_elder' (by (with_reducible repeat (first | apply Kd.R_alloc | apply Kd.R_drewN | apply Kd.R_drew)); exact HO219.out) (Kd.R_base ho36) hb); have n4_ := Aside0.mk (Kd.R_elder' (by (with_reducible repeat (first | apply Kd.R_alloc | apply Kd.R_drewN | apply Kd.R_drew)); exact HO222.out) (Kd.R_base ho36) hb); have n5_ := Aside0.mk (Kd.R_lower (Kd.R_new' (Kd.R_new' (Kd.R_new' (Kd.R_new' (Kd.R_new' ho36 (Kd.R_lt (by (with_reducible repeat (first | apply Kd.R_alloc | apply Kd.R_drewN | apply Kd.R_drew)); exact HO210.out))) (Kd.R_lt (by (with_reducible repeat (first | apply Kd.R_alloc | apply Kd.R_drewN | apply Kd.R_drew)); exact HO213.out))) (Kd.R_lt (by (with_reducible repeat (first | apply Kd.R_alloc | apply Kd.R_drewN | apply Kd.R_drew)); exact HO216.out))) (Kd.R_lt (by (with_reducible repeat (first | apply Kd.R_alloc | apply Kd.R_drewN | apply Kd.R_drew)); exact HO219.out))) (Kd.R_lt (by (with_reducible repeat (first | apply Kd.R_alloc | apply Kd.R_drewN | apply Kd.R_drew)); exact HO222.out))) (below_size (by repeat (first | (with_reducible first | exact HB.out | apply below_alloc | apply pw_below_drewN | apply below_drew1 | refine below_set ?_ GE206.out) | exact HB.out)))); have n6_ := Aside0.mk (blk_below (g := gb206) (o := .cells #[.int .u16 a2_0, .int .u16 a2_1, .int .u32 a2_2, .int .u32 a2_3, .int .u8 a2_4, .int .u16 a2_5, .int .i64 a2_6, .int .i64 a2_7, .slice A2_8 l2_8.length c2_8] 26 (0, 0)) (by (with_reducible repeat (first | refine blk_drewN ?_ _ | refine blk_drew ?_ | refine blk_alloc ?_ _)); exact BK206.out) hb); have n7_ := Aside0.mk (below_step (by repeat (first | (with_reducible first | exact HB.out | apply below_alloc | apply pw_below_drewN | apply below_drew1 | refine below_set ?_ GE206.out) | exact HB.out)) hb); clear HO210; clear HO213; clear HO216; clear HO219; clear HO222; clear BK206; clear HB; have HO210 := n0_; have HO213 := n1_; have HO216 := n2_; have HO219 := n3_; have HO222 := n4_; have HO225 := n5_; have BK206 := n6_; have HB := n7_; clear n0_ n1_ n2_ n3_ n4_ n5_ n6_ n7_; clear hb ho36; (try (obtain ⟨Ao38, co38, eo38⟩ := Kd.R_slice HO225.out; subst eo38))) | ((with_reducible refine gate_builtin (b := .append) (xs := #[.tmp 33, .tmp 42]) rfl ?_); at_builtin; refine Kd.R_append_rows (Kd.int .u8) (w0 := w) w.heap.size rfl (.tmp 33) (.tmp 42) 24 5 (.int .u8 0) 1 rfl Try.underlying24 info5 rfl (by decide) (by omega) v221 t220 y223 _ _ _ (fun k_ => some k_ ≠ (.slice Ao33 t208.length co33 : Value).ownBlock ∧ some k_ ≠ (.slice Ao26 t211.length co26 : Value).ownBlock ∧ some k_ ≠ (.slice Ao29 t214.length co29 : Value).ownBlock ∧ some k_ ≠ (.slice Ao31 t217.length co31 : Value).ownBlock ∧ some k_ ≠ (.slice Ao38 y223.length co38 : Value).ownBlock) (fun _ => False) rfl rfl ?aO ?aR (fun _ _ h => h) (fun _ h => h.elim) ?aF ?aB ?aS ?aL ?_; (case aR => repeat (first | exact (Kd.R_reads' HO225.out).2.2 | (with_reducible refine Kd.C_alloc ?_ _) | (with_reducible refine Kd.C_drewN ?_ _) | (with_reducible refine Kd.C_drew ?_))); (case aB => exact (by repeat (first | (with_reducible first | exact HB.out | apply below_alloc | apply pw_below_drewN | apply below_drew1 | refine below_set ?_ GE206.out) | exact HB.out))); (case aF => exact (fun k_ hk => ⟨Kd.fresh' (Kd.R_lt (by (with_reducible repeat (first | apply Kd.R_alloc | apply Kd.R_drewN | apply Kd.R_drew)); exact HO210.out)) k_ hk, Kd.fresh' (Kd.R_lt (by (with_reducible repeat (first | apply Kd.R_alloc | apply Kd.R_drewN | apply Kd.R_drew)); exact HO213.out)) k_ hk, Kd.fresh' (Kd.R_lt (by (with_reducible repeat (first | apply Kd.R_alloc | apply Kd.R_drewN | apply Kd.R_drew)); exact HO216.out)) k_ hk, Kd.fresh' (Kd.R_lt (by (with_reducible repeat (first | apply Kd.R_alloc | apply Kd.R_drewN | apply Kd.R_drew)); exact HO219.out)) k_ hk, Kd.fresh' (Kd.R_lt (by (with_reducible repeat (first | apply Kd.R_alloc | apply Kd.R_drewN | apply Kd.R_drew)); exact HO225.out)) k_ hk⟩)); (case aO => exact (by (with_reducible repeat (first | apply Kd.R_alloc | apply Kd.R_drewN | apply Kd.R_drew)); exact Kd.R_mono HO222.out (fun _ hk => ⟨hk.1.1.1.1.2, ⟨hk.1.1.1.2, ⟨hk.1.1.2, ⟨hk.1.2, hk.2⟩⟩⟩⟩))); (case aS => exact (below_size (by repeat (first | (with_reducible first | exact HB.out | apply below_alloc | apply pw_below_drewN | apply below_drew1 | refine below_set ?_ GE206.out) | exact HB.out)))); (case aL => have := LMc11.out; omega); intro v227 w37 ho hb hg hat; rw [← Ny226.out] at ho; have n0_ := Aside0.mk (blk_grown (g := gb206) (o := .cells #[.int .u16 a2_0, .int .u16 a2_1, .int .u32 a2_2, .int .u32 a2_3, .int .u8 a2_4, .int .u16 a2_5, .int .i64 a2_6, .int .i64 a2_7, .slice A2_8 l2_8.length c2_8] 26 (0, 0)) (by (with_reducible repeat (first | refine blk_drewN ?_ _ | refine blk_drew ?_ | refine blk_alloc ?_ _)); exact BK206.out) hg (Kd.R_ne HO222.out BK206.out (by decide))); have n1_ := Aside0.mk (Kd.R_after (ok := (fun k_ => some k_ ≠ (.slice Ao26 t211.length co26 : Value).ownBlock ∧ some k_ ≠ (.slice Ao29 t214.length co29 : Value).ownBlock ∧ some k_ ≠ (.slice Ao31 t217.length co31 : Value).ownBlock ∧ some k_ ≠ (.slice Ao38 y223.length co38 : Value).ownBlock)) (by (with_reducible repeat (first | apply Kd.R_alloc | apply Kd.R_drewN | apply Kd.R_drew)); exact Kd.R_mono HO210.out (fun _ hk => ⟨⟨hk.1.1.1.1.2, ⟨hk.1.1.1.2, ⟨hk.1.1.2, hk.2⟩⟩⟩, hk.1.2⟩)) hg hat); have n2_ := Aside0.mk (Kd.R_after (ok := (fun k_ => some k_ ≠ (.slice Ao33 t208.length co33 : Value).ownBlock ∧ some k_ ≠ (.slice Ao29 t214.length co29 : Value).ownBlock ∧ some k_ ≠ (.slice Ao31 t217.length co31 : Value).ownBlock ∧ some k_ ≠ (.slice Ao38 y223.length co38 : Value).ownBlock)) (by (with_reducible repeat (first | apply Kd.R_alloc | apply Kd.R_drewN | apply Kd.R_drew)); exact Kd.R_mono HO213.out (fun _ hk => ⟨⟨hk.1.1.1.1.2, ⟨hk.1.1.1.2, ⟨hk.1.1.2, hk.2⟩⟩⟩, hk.1.2⟩)) hg hat); have n3_ := Aside0.mk (Kd.R_after (ok := (fun k_ => some k_ ≠ (.slice Ao33 t208.length co33 : Value).ownBlock ∧ some k_ ≠ (.slice Ao26 t211.length co26 : Value).ownBlock ∧ some k_ ≠ (.slice Ao31 t217.length co31 : Value).ownBlock ∧ some k_ ≠ (.slice Ao38 y223.length co38 : Value).ownBlock)) (by (with_reducible repeat (first | apply Kd.R_alloc | apply Kd.R_drewN | apply Kd.R_drew)); exact Kd.R_mono HO216.out (fun _ hk => ⟨⟨hk.1.1.1.1.2, ⟨hk.1.1.1.2, ⟨hk.1.1.2, hk.2⟩⟩⟩, hk.1.2⟩)) hg hat); have n4_ := Aside0.mk (Kd.R_after (ok := (fun k_ => some k_ ≠ (.slice Ao33 t208.length co33 : Value).ownBlock ∧ some k_ ≠ (.slice Ao26 t211.length co26 : Value).ownBlock ∧ some k_ ≠ (.slice Ao29 t214.length co29 : Value).ownBlock ∧ some k_ ≠ (.slice Ao38 y223.length co38 : Value).ownBlock)) (by (with_reducible repeat (first | apply Kd.R_alloc | apply Kd.R_drewN | apply Kd.R_drew)); exact Kd.R_mono HO219.out (fun _ hk => ⟨⟨hk.1.1.1.1.2, ⟨hk.1.1.1.2, ⟨hk.1.1.2, hk.2⟩⟩⟩, hk.1.2⟩)) hg hat); have n5_ := Aside0.mk (Kd.R_after (ok := (fun k_ => some k_ ≠ (.slice Ao33 t208.length co33 : Value).ownBlock ∧ some k_ ≠ (.slice Ao26 t211.length co26 : Value).ownBlock ∧ some k_ ≠ (.slice Ao29 t214.length co29 : Value).ownBlock ∧ some k_ ≠ (.slice Ao31 t217.length co31 : Value).ownBlock)) (by (with_reducible repeat (first | apply Kd.R_alloc | apply Kd.R_drewN | apply Kd.R_drew)); exact Kd.R_mono HO225.out (fun _ hk => ⟨⟨hk.1.1.1.1.2, ⟨hk.1.1.1.2, ⟨hk.1.1.2, hk.1.2⟩⟩⟩, hk.2⟩)) hg hat); have n6_ := Aside0.mk (hb); have n7_ := Aside0.mk (ho); clear BK206; clear HO210; clear HO213; clear HO216; clear HO219; clear HO225; clear HB; clear HO222; have BK206 := n0_; have HO210 := n1_; have HO213 := n2_; have HO216 := n3_; have HO219 := n4_; have HO225 := n5_; have HB := n6_; have HO228 := n7_; clear n0_ n1_ n2_ n3_ n4_ n5_ n6_ n7_; clear ho hb hg hat; have hcz39 := blk_cell BK206.out; have hfz39 := blk_frozen BK206.out; (try (obtain ⟨Ao40, co40, eo40⟩ := Kd.R_slice HO228.out; subst eo40))) | ((with_reducible refine gate_callee (f := 63) rfl ?_); refine goesL_ (some 48) rfl rfl Try.func63 (by kernel_rfl) rfl #[.slice Ao40 y226.length co40, .int .i64 (wrap64 (a2_5))] rfl (by (try simp only [List.map_toArray, List.map_cons, List.map_nil]); first | done | rfl | (simp only [List.length_drop, List.length_take]; rfl) | (go_simp; done) | (go_simp; omega)) ?_; (with_reducible refine (octet_Put16.calls k _ _ y226 (wrap64 (a2_5)) t229 _ ?side1 ?side2 A12.out).mono ?_); (case side1 => repeat (first | exact (Kd.R_reads' HO228.out).2.2 | (with_reducible refine Kd.C_alloc ?_ _) | (with_reducible refine Kd.C_drewN ?_ _) | (with_reducible refine Kd.C_drew ?_))); (case side2 => exact (Kd.R_reads' HO228.out).2.1); rintro e w41 ⟨v230, rfl, ho0, hb⟩; refine ⟨_, rfl, ?_⟩; have n0_ := Aside0.mk (Kd.R_elder' (by (with_reducible repeat (first | apply Kd.R_alloc | apply Kd.R_drewN | apply Kd.R_drew)); exact HO210.out) (Kd.R_base ho0) hb); have n1_ := Aside0.mk (Kd.R_elder' (by (with_reducible repeat (first | apply Kd.R_alloc | apply Kd.R_drewN | apply Kd.R_drew)); exact HO213.out) (Kd.R_base ho0) hb); have n2_ := Aside0.mk (Kd.R_elder' (by (with_reducible repeat (first | apply Kd.R_alloc | apply Kd.R_drewN | apply Kd.R_drew)); exact HO216.out) (Kd.R_base ho0) hb); have n3_ := Aside0.mk (Kd.R_elder' (by (with_reducible repeat (first | apply Kd.R_alloc | apply Kd.R_drewN | apply Kd.R_drew)); exact HO219.out) (Kd.R_base ho0) hb); have n4_ := Aside0.mk (Kd.R_elder' (by (with_reducible repeat (first | apply Kd.R_alloc | apply Kd.R_drewN | apply Kd.R_drew)); exact HO225.out) (Kd.R_base ho0) hb); have n5_ := Aside0.mk (Kd.R_elder' (by (with_reducible repeat (first | apply Kd.R_alloc | apply Kd.R_drewN | apply Kd.R_drew)); exact HO228.out) (Kd.R_base ho0) hb); have n6_ := Aside0.mk (Kd.R_lower (Kd.R_new' (Kd.R_new' (Kd.R_new' (Kd.R_new' (Kd.R_new' (Kd.R_new' ho0 (Kd.R_lt (by (with_reducible repeat (first | apply Kd.R_alloc | apply Kd.R_drewN | apply Kd.R_drew)); exact HO210.out))) (Kd.R_lt (by (with_reducible repeat (first | apply Kd.R_alloc | apply Kd.R_drewN | apply Kd.R_drew)); exact HO213.out))) (Kd.R_lt (by (with_reducible repeat (first | apply Kd.R_alloc | apply Kd.R_drewN | apply Kd.R_drew)); exact HO216.out))) (Kd.R_lt (by (with_reducible repeat (first | apply Kd.R_alloc | apply Kd.R_drewN | apply Kd.R_drew)); exact HO219.out))) (Kd.R_lt (by (with_reducible repeat (first | apply Kd.R_alloc | apply Kd.R_drewN | apply Kd.R_drew)); exact HO225.out))) (Kd.R_lt (by (with_reducible repeat (first | apply Kd.R_alloc | apply Kd.R_drewN | apply Kd.R_drew)); exact HO228.out))) (below_size (by repeat (first | (with_reducible first | exact HB.out | apply below_alloc | apply pw_below_drewN | apply below_drew1 | refine below_set ?_ GE206.out) | exact HB.out)))); have n7_ := Aside0.mk (blk_below (g := gb206) (o := .cells #[.int .u16 a2_0, .int .u16 a2_1, .int .u32 a2_2, .int .u32 a2_3, .int .u8 a2_4, .int .u16 a2_5, .int .i64 a2_6, .int .i64 a2_7, .slice A2_8 l2_8.length c2_8] 26 (0, 0)) (by (with_reducible repeat (first | refine blk_drewN ?_ _ | refine blk_drew ?_ | refine blk_alloc ?_ _)); exact BK206.out) hb); have n8_ := Aside0.mk (below_step (by repeat (first | (with_reducible first | exact HB.out | apply below_alloc | apply pw_below_drewN | apply below_drew1 | refine below_set ?_ GE206.out) | exact HB.out)) hb); clear HO210; clear HO213; clear HO216; clear HO219; clear HO225; clear HO228; clear BK206; clear HB; have HO210 := n0_; have HO213 := n1_; have HO216 := n2_; have HO219 := n3_; have HO225 := n4_; have HO228 := n5_; have HO231 := n6_; have BK206 := n7_; have HB := n8_; clear n0_ n1_ n2_ n3_ n4_ n5_ n6_ n7_ n8_; (try clear hb); (try clear hb2); (try clear hk); (try clear hi); (try clear ho0)) | ((with_reducible refine gate_dst (N := 50) rfl ?_); refine Kd.R_lit (Kd.int .u8) _ 5 ?hg (N := 50) ?hd (xs := ([0, 0, 0, 0] : List Int)) (inner := [.int .u8 0, .int .u8 0, .int .u8 0, .int .u8 0]) (ok := fun _ => True) (okp := fun _ => True) ?hr ?hp (fun _ hk => hk) trivial (Below.refl _ _) (Nat.le_refl _) (by simp) ?_; (case hd => rfl); (case hg => rfl); (case hr => first | (go_simp; done) | (go_simp; rfl)); (case hp => exact (Reps.one (show Kd.M (Kd.int .u8) _ _ _ 0 [.int .u8 0] from rfl) (Reps.one (show Kd.M (Kd.int .u8) _ _ _ 0 [.int .u8 0] from rfl) (Reps.one (show Kd.M (Kd.int .u8) _ _ _ 0 [.int .u8 0] from rfl) (Reps.one (show Kd.M (Kd.int .u8) _ _ _ 0 [.int .u8 0] from rfl) (Reps.none _ _)))))); intro v233 w42 ho43 hb hg_ hnew_; clear hg_ hnew_; (first | rw [← Ny232.out] at ho43 | (simp only [Int.reduceToNat] at ho43; rw [← Ny232.out] at ho43)); have n0_ := Aside0.mk (Kd.R_elder' (by (with_reducible repeat (first | apply Kd.R_alloc | apply Kd.R_drewN | apply Kd.R_drew)); exact HO210.out) (Kd.R_base ho43) hb); have n1_ := Aside0.mk (Kd.R_elder' (by (with_reducible repeat (first | apply Kd.R_alloc | apply Kd.R_drewN | apply Kd.R_drew)); exact HO213.out) (Kd.R_base ho43) hb); have n2_ := Aside0.mk (Kd.R_elder' (by (with_reducible repeat (first | apply Kd.R_alloc | apply Kd.R_drewN | apply Kd.R_drew)); exact HO216.out) (Kd.R_base ho43) hb); have n3_ := Aside0.mk (Kd.R_elder' (by (with_reducible repeat (first | apply Kd.R_alloc | apply Kd.R_drewN | apply Kd.R_drew)); exact HO219.out) (Kd.R_base ho43) hb); have n4_ := Aside0.mk (Kd.R_elder' (by (with_reducible repeat (first | apply Kd.R_alloc | apply Kd.R_drewN | apply Kd.R_drew)); exact HO225.out) (Kd.R_base ho43) hb); have n5_ := Aside0.mk (Kd.R_elder' (by (with_reducible repeat (first | apply Kd.R_alloc | apply Kd.R_drewN | apply Kd.R_drew)); exact HO228.out) (Kd.R_base ho43) hb); have n6_ := Aside0.mk (Kd.R_elder' (by (with_reducible repeat (first | apply Kd.R_alloc | apply Kd.R_drewN | apply Kd.R_drew)); exact HO231.out) (Kd.R_base ho43) hb); have n7_ := Aside0.mk (Kd.R_lower (Kd.R_new' (Kd.R_new' (Kd.R_new' (Kd.R_new' (Kd.R_new' (Kd.R_new' (Kd.R_new' ho43 (Kd.R_lt (by (with_reducible repeat (first | apply Kd.R_alloc | apply Kd.R_drewN | apply Kd.R_drew)); exact HO210.out))) (Kd.R_lt (by (with_reducible repeat (first | apply Kd.R_alloc | apply Kd.R_drewN | apply Kd.R_drew)); exact HO213.out))) (Kd.R_lt (by (with_reducible repeat (first | apply Kd.R_alloc | apply Kd.R_drewN | apply Kd.R_drew)); exact HO216.out))) (Kd.R_lt (by (with_reducible repeat (first | apply Kd.R_alloc | apply Kd.R_drewN | apply Kd.R_drew)); exact HO219.out))) (Kd.R_lt (by (with_reducible repeat (first | apply Kd.R_alloc | apply Kd.R_drewN | apply Kd.R_drew)); exact HO225.out))) (Kd.R_lt (by (with_reducible repeat (first | apply Kd.R_alloc | apply Kd.R_drewN | apply Kd.R_drew)); exact HO228.out))) (Kd.R_lt (by (with_reducible repeat (first | apply Kd.R_alloc | apply Kd.R_drewN | apply Kd.R_drew)); exact HO231.out))) (below_size (by repeat (first | (with_reducible first | exact HB.out | apply below_alloc | apply pw_below_drewN | apply below_drew1 | refine below_set ?_ GE206.out) | exact HB.out)))); have n8_ := Aside0.mk (blk_below (g := gb206) (o := .cells #[.int .u16 a2_0, .int .u16 a2_1, .int .u32 a2_2, .int .u32 a2_3, .int .u8 a2_4, .int .u16 a2_5, .int .i64 a2_6, .int .i64 a2_7, .slice A2_8 l2_8.length c2_8] 26 (0, 0)) (by (with_reducible repeat (first | refine blk_drewN ?_ _ | refine blk_drew ?_ | refine blk_alloc ?_ _)); exact BK206.out) hb); have n9_ := Aside0.mk (below_step (by repeat (first | (with_reducible first | exact HB.out | apply below_alloc | apply pw_below_drewN | apply below_drew1 | refine below_set ?_ GE206.out) | exact HB.out)) hb); clear HO210; clear HO213; clear HO216; clear HO219; clear HO225; clear HO228; clear HO231; clear BK206; clear HB; have HO210 := n0_; have HO213 := n1_; have HO216 := n2_; have HO219 := n3_; have HO225 := n4_; have HO228 := n5_; have HO231 := n6_; have HO234 := n7_; have BK206 := n8_; have HB := n9_; clear n0_ n1_ n2_ n3_ n4_ n5_ n6_ n7_ n8_ n9_; clear hb ho43; (try (obtain ⟨Ao45, co45, eo45⟩ := Kd.R_slice HO234.out; subst eo45))) | ((with_reducible refine gate_builtin (b := .append) (xs := #[.tmp 49, .tmp 50]) rfl ?_); at_builtin; refine Kd.R_append_rows (Kd.int .u8) (w0 := w) w.heap.size rfl (.tmp 49) (.tmp 50) 24 5 (.int .u8 0) 1 rfl Try.underlying24 info5 rfl (by decide) (by omega) v230 t229 y232 _ _ _ (fun k_ => some k_ ≠ (.slice Ao33 t208.length co33 : Value).ownBlock ∧ some k_ ≠ (.slice Ao26 t211.length co26 : Value).ownBlock ∧ some k_ ≠ (.slice Ao29 t214.length co29 : Value).ownBlock ∧ some k_ ≠ (.slice Ao31 t217.length co31 : Value).ownBlock ∧ some k_ ≠ (.slice Ao38 y223.length co38 : Value).ownBlock ∧ some k_ ≠ (.slice Ao40 y226.length co40 : Value).ownBlock ∧ some k_ ≠ (.slice Ao45 y232.length co45 : Value).ownBlock) (fun _ => False) rfl rfl ?aO ?aR (fun _ _ h => h) (fun _ h => h.elim) ?aF ?aB ?aS ?aL ?_; (case aR => repeat (first | exact (Kd.R_reads' HO234.out).2.2 | (with_reducible refine Kd.C_alloc ?_ _) | (with_reducible refine Kd.C_drewN ?_ _) | (with_reducible refine Kd.C_drew ?_))); (case aB => exact (by repeat (first | (with_reducible first | exact HB.out | apply below_alloc | apply pw_below_drewN | apply below_drew1 | refine below_set ?_ GE206.out) | exact HB.out))); (case aF => exact (fun k_ hk => ⟨Kd.fresh' (Kd.R_lt (by (with_reducible repeat (first | apply Kd.R_alloc | apply Kd.R_drewN | apply Kd.R_drew)); exact HO210.out)) k_ hk, Kd.fresh' (Kd.R_lt (by (with_reducible repeat (first | apply Kd.R_alloc | apply Kd.R_drewN | apply Kd.R_drew)); exact HO213.out)) k_ hk, Kd.fresh' (Kd.R_lt (by (with_reducible repeat (first | apply Kd.R_alloc | apply Kd.R_drewN | apply Kd.R_drew)); exact HO216.out)) k_ hk, Kd.fresh' (Kd.R_lt (by (with_reducible repeat (first | apply Kd.R_alloc | apply Kd.R_drewN | apply Kd.R_drew)); exact HO219.out)) k_ hk, Kd.fresh' (Kd.R_lt (by (with_reducible repeat (first | apply Kd.R_alloc | apply Kd.R_drewN | apply Kd.R_drew)); exact HO225.out)) k_ hk, Kd.fresh' (Kd.R_lt (by (with_reducible repeat (first | apply Kd.R_alloc | apply Kd.R_drewN | apply Kd.R_drew)); exact HO228.out)) k_ hk, Kd.fresh' (Kd.R_lt (by (with_reducible repeat (first | apply Kd.R_alloc | apply Kd.R_drewN | apply Kd.R_drew)); exact HO234.out)) k_ hk⟩)); (case aO => exact (by (with_reducible repeat (first | apply Kd.R_alloc | apply Kd.R_drewN | apply Kd.R_drew)); exact Kd.R_mono HO231.out (fun _ hk => ⟨hk.1.1.1.1.1.1.2, ⟨hk.1.1.1.1.1.2, ⟨hk.1.1.1.1.2, ⟨hk.1.1.1.2, ⟨hk.1.1.2, ⟨hk.1.2, hk.2⟩⟩⟩⟩⟩⟩))); (case aS => exact (below_size (by repeat (first | (with_reducible first | exact HB.out | apply below_alloc | apply pw_below_drewN | apply below_drew1 | refine below_set ?_ GE206.out) | exact HB.out)))); (case aL => have := LMc13.out; omega); intro v236 w44 ho hb hg hat; rw [← Ny235.out] at ho; have n0_ := Aside0.mk (blk_grown (g := gb206) (o := .cells #[.int .u16 a2_0, .int .u16 a2_1, .int .u32 a2_2, .int .u32 a2_3, .int .u8 a2_4, .int .u16 a2_5, .int .i64 a2_6, .int .i64 a2_7, .slice A2_8 l2_8.length c2_8] 26 (0, 0)) (by (with_reducible repeat (first | refine blk_drewN ?_ _ | refine blk_drew ?_ | refine blk_alloc ?_ _)); exact BK206.out) hg (Kd.R_ne HO231.out BK206.out (by decide))); have n1_ := Aside0.mk (Kd.R_after (ok := (fun k_ => some k_ ≠ (.slice Ao26 t211.length co26 : Value).ownBlock ∧ some k_ ≠ (.slice Ao29 t214.length co29 : Value).ownBlock ∧ some k_ ≠ (.slice Ao31 t217.length co31 : Value).ownBlock ∧ some k_ ≠ (.slice Ao38 y223.length co38 : Value).ownBlock ∧ some k_ ≠ (.slice Ao40 y226.length co40 : Value).ownBlock ∧ some k_ ≠ (.slice Ao45 y232.length co45 : Value).ownBlock)) (by (with_reducible repeat (first | apply Kd.R_alloc | apply Kd.R_drewN | apply Kd.R_drew)); exact Kd.R_mono HO210.out (fun _ hk => ⟨⟨hk.1.1.1.1, ⟨hk.1.1.1.2.1, ⟨hk.1.1.1.2.2.1, ⟨hk.1.1.1.2.2.2, ⟨hk.1.1.2, hk.2⟩⟩⟩⟩⟩, hk.1.2⟩)) hg hat); have n2_ := Aside0.mk (Kd.R_after (ok := (fun k_ => some k_ ≠ (.slice Ao33 t208.length co33 : Value).ownBlock ∧ some k_ ≠ (.slice Ao29 t214.length co29 : Value).ownBlock ∧ some k_ ≠ (.slice Ao31 t217.length co31 : Value).ownBlock ∧ some k_ ≠ (.slice Ao38 y223.length co38 : Value).ownBlock ∧ some k_ ≠ (.slice Ao40 y226.length co40 : Value).ownBlock ∧ some k_ ≠ (.slice Ao45 y232.length co45 : Value).ownBlock)) (by (with_reducible repeat (first | apply Kd.R_alloc | apply Kd.R_drewN | apply Kd.R_drew)); exact Kd.R_mono HO213.out (fun _ hk => ⟨⟨hk.1.1.1.1, ⟨hk.1.1.1.2.1, ⟨hk.1.1.1.2.2.1, ⟨hk.1.1.1.2.2.2, ⟨hk.1.1.2, hk.2⟩⟩⟩⟩⟩, hk.1.2⟩)) hg hat); have n3_ := Aside0.mk (Kd.R_after (ok := (fun k_ => some k_ ≠ (.slice Ao33 t208.length co33 : Value).ownBlock ∧ some k_ ≠ (.slice Ao26 t211.length co26 : Value).ownBlock ∧ some k_ ≠ (.slice Ao31 t217.length co31 : Value).ownBlock ∧ some k_ ≠ (.slice Ao38 y223.length co38 : Value).ownBlock ∧ some k_ ≠ (.slice Ao40 y226.length co40 : Value).ownBlock ∧ some k_ ≠ (.slice Ao45 y232.length co45 : Value).ownBlock)) (by (with_reducible repeat (first | apply Kd.R_alloc | apply Kd.R_drewN | apply Kd.R_drew)); exact Kd.R_mono HO216.out (fun _ hk => ⟨⟨hk.1.1.1.1, ⟨hk.1.1.1.2.1, ⟨hk.1.1.1.2.2.1, ⟨hk.1.1.1.2.2.2, ⟨hk.1.1.2, hk.2⟩⟩⟩⟩⟩, hk.1.2⟩)) hg hat); have n4_ := Aside0.mk (Kd.R_after (ok := (fun k_ => some k_ ≠ (.slice Ao33 t208.length co33 : Value).ownBlock ∧ some k_ ≠ (.slice Ao26 t211.length co26 : Value).ownBlock ∧ some k_ ≠ (.slice Ao29 t214.length co29 : Value).ownBlock ∧ some k_ ≠ (.slice Ao38 y223.length co38 : Value).ownBlock ∧ some k_ ≠ (.slice Ao40 y226.length co40 : Value).ownBlock ∧ some k_ ≠ (.slice Ao45 y232.length co45 : Value).ownBlock)) (by (with_reducible repeat (first | apply Kd.R_alloc | apply Kd.R_drewN | apply Kd.R_drew)); exact Kd.R_mono HO219.out (fun _ hk => ⟨⟨hk.1.1.1.1, ⟨hk.1.1.1.2.1, ⟨hk.1.1.1.2.2.1, ⟨hk.1.1.1.2.2.2, ⟨hk.1.1.2, hk.2⟩⟩⟩⟩⟩, hk.1.2⟩)) hg hat); have n5_ := Aside0.mk (Kd.R_after (ok := (fun k_ => some k_ ≠ (.slice Ao33 t208.length co33 : Value).ownBlock ∧ some k_ ≠ (.slice Ao26 t211.length co26 : Value).ownBlock ∧ some k_ ≠ (.slice Ao29 t214.length co29 : Value).ownBlock ∧ some k_ ≠ (.slice Ao31 t217.length co31 : Value).ownBlock ∧ some k_ ≠ (.slice Ao40 y226.length co40 : Value).ownBlock ∧ some k_ ≠ (.slice Ao45 y232.length co45 : Value).ownBlock)) (by (with_reducible repeat (first | apply Kd.R_alloc | apply Kd.R_drewN | apply Kd.R_drew)); exact Kd.R_mono HO225.out (fun _ hk => ⟨⟨hk.1.1.1.1, ⟨hk.1.1.1.2.1, ⟨hk.1.1.1.2.2.1, ⟨hk.1.1.1.2.2.2, ⟨hk.1.1.2, hk.2⟩⟩⟩⟩⟩, hk.1.2⟩)) hg hat); have n6_ := Aside0.mk (Kd.R_after (ok := (fun k_ => some k_ ≠ (.slice Ao33 t208.length co33 : Value).ownBlock ∧ some k_ ≠ (.slice Ao26 t211.length co26 : Value).ownBlock ∧ some k_ ≠ (.slice Ao29 t214.length co29 : Value).ownBlock ∧ some k_ ≠ (.slice Ao31 t217.length co31 : Value).ownBlock ∧ some k_ ≠ (.slice Ao38 y223.length co38 : Value).ownBlock ∧ some k_ ≠ (.slice Ao45 y232.length co45 : Value).ownBlock)) (by (with_reducible repeat (first | apply Kd.R_alloc | apply Kd.R_drewN | apply Kd.R_drew)); exact Kd.R_mono HO228.out (fun _ hk => ⟨⟨hk.1.1.1, ⟨hk.1.1.2.1, ⟨hk.1.1.2.2.1, ⟨hk.1.1.2.2.2.1, ⟨hk.1.1.2.2.2.2, hk.2⟩⟩⟩⟩⟩, hk.1.2⟩)) hg hat); have n7_ := Aside0.mk (Kd.R_after (ok := (fun k_ => some k_ ≠ (.slice Ao33 t208.length co33 : Value).ownBlock ∧ some k_ ≠ (.slice Ao26 t211.length co26 : Value).ownBlock ∧ some k_ ≠ (.slice Ao29 t214.length co29 : Value).ownBlock ∧ some k_ ≠ (.slice Ao31 t217.length co31 : Value).ownBlock ∧ some k_ ≠ (.slice Ao38 y223.length co38 : Value).ownBlock ∧ some k_ ≠ (.slice Ao40 y226.length co40 : Value).ownBlock)) (by (with_reducible repeat (first | apply Kd.R_alloc | apply Kd.R_drewN | apply Kd.R_drew)); exact Kd.R_mono HO234.out (fun _ hk => ⟨⟨hk.1.1.1.1.1.1.2, ⟨hk.1.1.1.1.1.2, ⟨hk.1.1.1.1.2, ⟨hk.1.1.1.2, ⟨hk.1.1.2, hk.1.2⟩⟩⟩⟩⟩, hk.2⟩)) hg hat); have n8_ := Aside0.mk (hb); have n9_ := Aside0.mk (ho); clear BK206; clear HO210; clear HO213; clear HO216; clear HO219; clear HO225; clear HO228; clear HO234; clear HB; clear HO231; have BK206 := n0_; have HO210 := n1_; have HO213 := n2_; have HO216 := n3_; have HO219 := n4_; have HO225 := n5_; have HO228 := n6_; have HO234 := n7_; have HB := n8_; have HO237 := n9_; clear n0_ n1_ n2_ n3_ n4_ n5_ n6_ n7_ n8_ n9_; clear ho hb hg hat))
       have n0_ := Aside0.mk (Kd.R_drew HO210.out)
       have n1_ := Aside0.mk (Kd.R_drew HO213.out)
       have n2_ := Aside0.mk (Kd.R_drew HO216.out)
       have n3_ := Aside0.mk (Kd.R_drew HO219.out)
       have n4_ := Aside0.mk (Kd.R_drew HO225.out)
       have n5_ := Aside0.mk (Kd.R_drew HO228.out)
       have n6_ := Aside0.mk (Kd.R_drew HO234.out)
       have n7_ := Aside0.mk (Kd.R_drew HO237.out)
       have n8_ := Aside0.mk (blk_drew BK206.out)
       have n9_ := Aside0.mk (below_drew1 HB.out)
       clear HO210
       clear HO213
       clear HO216
       clear HO219
       clear HO225
       clear HO228
       clear HO234
       clear HO237
       clear BK206
       clear HB
       have HO210 := n0_
       have HO213 := n1_
       have HO216 := n2_
       have HO219 := n3_
       have HO225 := n4_
       have HO228 := n5_
       have HO234 := n6_
       have HO237 := n7_
       have BK206 := n8_
       have HB := n9_
       clear n0_ n1_ n2_ n3_ n4_ n5_ n6_ n7_ n8_ n9_
       refine start_ (n := 7) (S := fun w' => w'.cell? ⟨gb206, 0, none⟩ = some (.int .u16 a2_0) ∧ w'.cell? ⟨gb206, 1, none⟩ = some (.int .u16 a2_1) ∧ w'.cell? ⟨gb206, 2, none⟩ = some (.int .u32 a2_2) ∧ w'.cell? ⟨gb206, 3, none⟩ = some (.int .u32 a2_3) ∧ w'.cell? ⟨gb206, 4, none⟩ = some (.int .u8 a2_4) ∧ w'.cell? ⟨gb206, 5, none⟩ = some (.int .u16 a2_5) ∧ w'.cell? ⟨gb206, 6, none⟩ = some (.int .i64 a2_6) ∧ w'.cell? ⟨gb206, 7, none⟩ = some (.int .i64 a2_7) ∧ w'.cell? ⟨gb206, 8, none⟩ = some (.slice A2_8 l2_8.length c2_8)) (ds := []) #[false, false, false, false, false, false, false] (by kernel_rfl) rfl rfl ⟨(blk_cell BK206.out 0).trans rfl, (blk_cell BK206.out 1).trans rfl, (blk_cell BK206.out 2).trans rfl, (blk_cell BK206.out 3).trans rfl, (blk_cell BK206.out 4).trans rfl, (blk_cell BK206.out 5).trans rfl, (blk_cell BK206.out 6).trans rfl, (blk_cell BK206.out 7).trans rfl, (blk_cell BK206.out 8).trans rfl⟩ (fun hHeld => ?_)
       generalize w44.drew = w46 at HO210 HO213 HO216 HO219 HO225 HO228 HO234 HO237 BK206 HB hHeld ⊢
       refine pure_ (i := 0) (N := some 52) (v := ?_) (a' := ?_) #[true, false, false, false, false, false, false] rfl rfl (by kernel_rfl) (fun _ _ _ h => h) (Or.inl ⟨by rfl, ?_⟩) ?_ ?_
       rotate_left
       ·
        intro w'
        go_simp
        with_reducible rfl
       rotate_left
       ·
        simp only [Act.put, List.setIfInBounds_toArray, List.set_cons_zero, List.set_cons_succ, i64_w, i32_w]
        rfl
       refine pure_ (i := 1) (N := some 53) (v := ?_) (a' := ?_) #[true, true, false, false, false, false, false] rfl rfl (by kernel_rfl) (fun _ _ _ h => h) (Or.inl ⟨by rfl, ?_⟩) ?_ ?_
       rotate_left
       ·
        intro w'
        go_simp
        with_reducible rfl
       rotate_left
       ·
        simp only [Act.put, List.setIfInBounds_toArray, List.set_cons_zero, List.set_cons_succ, i64_w, i32_w]
        rfl
       refine pure_ (i := 3) (N := some 55) (v := ?_) (a' := ?_) #[true, true, false, true, false, false, false] rfl rfl (by kernel_rfl) (fun _ _ _ h => h) (Or.inl ⟨by rfl, ?_⟩) ?_ ?_
       rotate_left
       ·
        intro w'
        go_simp
        with_reducible rfl
       rotate_left
       ·
        simp only [Act.put, List.setIfInBounds_toArray, List.set_cons_zero, List.set_cons_succ, i64_w, i32_w]
        rfl
       refine take_ (i := 4) (N := some 56) (v := ?_) (a' := ?_) #[true, true, false, true, true, false, false] rfl rfl (by kernel_rfl) (fun _ _ _ h => h) (Or.inl ⟨by rfl, ?_⟩) hHeld ?_ ?_
       rotate_left
       ·
        rintro w' ⟨s0, s1, s2, s3, s4, s5, s6, s7, s8⟩
        go_simp
        with_reducible rfl
       rotate_left
       ·
        simp only [Act.put, List.setIfInBounds_toArray, List.set_cons_zero, List.set_cons_succ, i64_w, i32_w]
        rfl
       refine one_ (i := 2) (N := some 54) #[true, true, true, true, true, false, false] rfl rfl (by kernel_rfl) (by decide) (fun K hK => ?_)
       refine Kd.R_append_rows_step (Kd.int .u8) (w0 := w) w.heap.size (by rfl) (.tmp 52) (.tmp 53) 24 5 (.int .u8 0) 1 rfl Try.underlying24 info5 rfl (by decide) (by omega) v236 y235 t208 _ _ _ (fun k_ => some k_ ≠ (.slice Ao33 t208.length co33 : Value).ownBlock ∧ some k_ ≠ (.slice Ao26 t211.length co26 : Value).ownBlock ∧ some k_ ≠ (.slice Ao29 t214.length co29 : Value).ownBlock ∧ some k_ ≠ (.slice Ao31 t217.length co31 : Value).ownBlock ∧ some k_ ≠ (.slice Ao38 y223.length co38 : Value).ownBlock ∧ some k_ ≠ (.slice Ao40 y226.length co40 : Value).ownBlock ∧ some k_ ≠ (.slice Ao45 y232.length co45 : Value).ownBlock) (fun _ => False) rfl rfl ?aO ?aR (fun _ _ h => h) (fun _ h => h.elim) ?aF ?aB ?aS ?aL ?_
       (case aR => repeat (first | exact (Kd.R_reads' HO210.out).2.2 | (with_reducible refine Kd.C_alloc ?_ _) | (with_reducible refine Kd.C_drewN ?_ _) | (with_reducible refine Kd.C_drew ?_)))
       (case aB => exact (by repeat (first | (with_reducible first | exact HB.out | apply below_alloc | apply pw_below_drewN | apply below_drew1 | refine below_set ?_ GE206.out) | exact HB.out)))
       (case aF => exact (fun k_ hk => ⟨Kd.fresh' (Kd.R_lt (by (with_reducible repeat (first | apply Kd.R_alloc | apply Kd.R_drewN | apply Kd.R_drew)); exact HO210.out)) k_ hk, Kd.fresh' (Kd.R_lt (by (with_reducible repeat (first | apply Kd.R_alloc | apply Kd.R_drewN | apply Kd.R_drew)); exact HO213.out)) k_ hk, Kd.fresh' (Kd.R_lt (by (with_reducible repeat (first | apply Kd.R_alloc | apply Kd.R_drewN | apply Kd.R_drew)); exact HO216.out)) k_ hk, Kd.fresh' (Kd.R_lt (by (with_reducible repeat (first | apply Kd.R_alloc | apply Kd.R_drewN | apply Kd.R_drew)); exact HO219.out)) k_ hk, Kd.fresh' (Kd.R_lt (by (with_reducible repeat (first | apply Kd.R_alloc | apply Kd.R_drewN | apply Kd.R_drew)); exact HO225.out)) k_ hk, Kd.fresh' (Kd.R_lt (by (with_reducible repeat (first | apply Kd.R_alloc | apply Kd.R_drewN | apply Kd.R_drew)); exact HO228.out)) k_ hk, Kd.fresh' (Kd.R_lt (by (with_reducible repeat (first | apply Kd.R_alloc | apply Kd.R_drewN | apply Kd.R_drew)); exact HO234.out)) k_ hk⟩))
       (case aO => exact (by (with_reducible repeat (first | apply Kd.R_alloc | apply Kd.R_drewN | apply Kd.R_drew)); exact HO237.out))
       (case aS => exact (below_size (by repeat (first | (with_reducible first | exact HB.out | apply below_alloc | apply pw_below_drewN | apply below_drew1 | refine below_set ?_ GE206.out) | exact HB.out))))
       (case aL => have := LMc14.out; omega)
       intro v239 w47 ho hb hg hat
       rw [← Ny238.out] at ho
       have n0_ := Aside0.mk (blk_grown (g := gb206) (o := .cells #[.int .u16 a2_0, .int .u16 a2_1, .int .u32 a2_2, .int .u32 a2_3, .int .u8 a2_4, .int .u16 a2_5, .int .i64 a2_6, .int .i64 a2_7, .slice A2_8 l2_8.length c2_8] 26 (0, 0)) (by (with_reducible repeat (first | refine blk_drewN ?_ _ | refine blk_drew ?_ | refine blk_alloc ?_ _)); exact BK206.out) hg (Kd.R_ne HO237.out BK206.out (by decide)))
       have n1_ := Aside0.mk (Kd.R_after (ok := (fun k_ => some k_ ≠ (.slice Ao26 t211.length co26 : Value).ownBlock ∧ some k_ ≠ (.slice Ao29 t214.length co29 : Value).ownBlock ∧ some k_ ≠ (.slice Ao31 t217.length co31 : Value).ownBlock ∧ some k_ ≠ (.slice Ao38 y223.length co38 : Value).ownBlock ∧ some k_ ≠ (.slice Ao40 y226.length co40 : Value).ownBlock ∧ some k_ ≠ (.slice Ao45 y232.length co45 : Value).ownBlock)) (by (with_reducible repeat (first | apply Kd.R_alloc | apply Kd.R_drewN | apply Kd.R_drew)); exact HO210.out) hg hat)
       have n2_ := Aside0.mk (Kd.R_after (ok := (fun k_ => some k_ ≠ (.slice Ao33 t208.length co33 : Value).ownBlock ∧ some k_ ≠ (.slice Ao29 t214.length co29 : Value).ownBlock ∧ some k_ ≠ (.slice Ao31 t217.length co31 : Value).ownBlock ∧ some k_ ≠ (.slice Ao38 y223.length co38 : Value).ownBlock ∧ some k_ ≠ (.slice Ao40 y226.length co40 : Value).ownBlock ∧ some k_ ≠ (.slice Ao45 y232.length co45 : Value).ownBlock)) (by (with_reducible repeat (first | apply Kd.R_alloc | apply Kd.R_drewN | apply Kd.R_drew)); exact HO213.out) hg hat)
       have n3_ := Aside0.mk (Kd.R_after (ok := (fun k_ => some k_ ≠ (.slice Ao33 t208.length co33 : Value).ownBlock ∧ some k_ ≠ (.slice Ao26 t211.length co26 : Value).ownBlock ∧ some k_ ≠ (.slice Ao31 t217.length co31 : Value).ownBlock ∧ some k_ ≠ (.slice Ao38 y223.length co38 : Value).ownBlock ∧ some k_ ≠ (.slice Ao40 y226.length co40 : Value).ownBlock ∧ some k_ ≠ (.slice Ao45 y232.length co45 : Value).ownBlock)) (by (with_reducible repeat (first | apply Kd.R_alloc | apply Kd.R_drewN | apply Kd.R_drew)); exact HO216.out) hg hat)
       have n4_ := Aside0.mk (Kd.R_after (ok := (fun k_ => some k_ ≠ (.slice Ao33 t208.length co33 : Value).ownBlock ∧ some k_ ≠ (.slice Ao26 t211.length co26 : Value).ownBlock ∧ some k_ ≠ (.slice Ao29 t214.length co29 : Value).ownBlock ∧ some k_ ≠ (.slice Ao38 y223.length co38 : Value).ownBlock ∧ some k_ ≠ (.slice Ao40 y226.length co40 : Value).ownBlock ∧ some k_ ≠ (.slice Ao45 y232.length co45 : Value).ownBlock)) (by (with_reducible repeat (first | apply Kd.R_alloc | apply Kd.R_drewN | apply Kd.R_drew)); exact HO219.out) hg hat)
       have n5_ := Aside0.mk (Kd.R_after (ok := (fun k_ => some k_ ≠ (.slice Ao33 t208.length co33 : Value).ownBlock ∧ some k_ ≠ (.slice Ao26 t211.length co26 : Value).ownBlock ∧ some k_ ≠ (.slice Ao29 t214.length co29 : Value).ownBlock ∧ some k_ ≠ (.slice Ao31 t217.length co31 : Value).ownBlock ∧ some k_ ≠ (.slice Ao40 y226.length co40 : Value).ownBlock ∧ some k_ ≠ (.slice Ao45 y232.length co45 : Value).ownBlock)) (by (with_reducible repeat (first | apply Kd.R_alloc | apply Kd.R_drewN | apply Kd.R_drew)); exact HO225.out) hg hat)
       have n6_ := Aside0.mk (Kd.R_after (ok := (fun k_ => some k_ ≠ (.slice Ao33 t208.length co33 : Value).ownBlock ∧ some k_ ≠ (.slice Ao26 t211.length co26 : Value).ownBlock ∧ some k_ ≠ (.slice Ao29 t214.length co29 : Value).ownBlock ∧ some k_ ≠ (.slice Ao31 t217.length co31 : Value).ownBlock ∧ some k_ ≠ (.slice Ao38 y223.length co38 : Value).ownBlock ∧ some k_ ≠ (.slice Ao45 y232.length co45 : Value).ownBlock)) (by (with_reducible repeat (first | apply Kd.R_alloc | apply Kd.R_drewN | apply Kd.R_drew)); exact HO228.out) hg hat)
       have n7_ := Aside0.mk (Kd.R_after (ok := (fun k_ => some k_ ≠ (.slice Ao33 t208.length co33 : Value).ownBlock ∧ some k_ ≠ (.slice Ao26 t211.length co26 : Value).ownBlock ∧ some k_ ≠ (.slice Ao29 t214.length co29 : Value).ownBlock ∧ some k_ ≠ (.slice Ao31 t217.length co31 : Value).ownBlock ∧ some k_ ≠ (.slice Ao38 y223.length co38 : Value).ownBlock ∧ some k_ ≠ (.slice Ao40 y226.length co40 : Value).ownBlock)) (by (with_reducible repeat (first | apply Kd.R_alloc | apply Kd.R_drewN | apply Kd.R_drew)); exact HO234.out) hg hat)
       have n8_ := Aside0.mk (hb)
       have n9_ := Aside0.mk (ho)
       clear BK206
       clear HO210
       clear HO213
       clear HO216
       clear HO219
       clear HO225
       clear HO228
       clear HO234
       clear HB
       clear HO237
       have BK206 := n0_
       have HO210 := n1_
       have HO213 := n2_
       have HO216 := n3_
       have HO219 := n4_
       have HO225 := n5_
       have HO228 := n6_
       have HO234 := n7_
       have HB := n8_
       have HO240 := n9_
       clear n0_ n1_ n2_ n3_ n4_ n5_ n6_ n7_ n8_ n9_
       clear ho hb hg hat
       refine hK.out _ _ ⟨(blk_cell BK206.out 0).trans rfl, (blk_cell BK206.out 1).trans rfl, (blk_cell BK206.out 2).trans rfl, (blk_cell BK206.out 3).trans rfl, (blk_cell BK206.out 4).trans rfl, (blk_cell BK206.out 5).trans rfl, (blk_cell BK206.out 6).trans rfl, (blk_cell BK206.out 7).trans rfl, (blk_cell BK206.out 8).trans rfl⟩ (fun hHeld => ?_)
       clear hK K
       refine norm_ (a' := ?_) ?_ ?_
       rotate_left
       ·
        show Act.put _ (some 54) _ = _
        simp only [Act.put, List.setIfInBounds_toArray, List.set_cons_zero, List.set_cons_succ, i64_w, i32_w]
        rfl
       refine one_ (i := 5) (N := some 57) #[true, true, true, true, true, true, false] rfl rfl (by kernel_rfl) (by decide) (fun K hK => ?_)
       refine Kd.R_append_rows_step (Kd.int .u8) (w0 := w) w.heap.size (by rfl) (.tmp 54) (.tmp 56) 24 5 (.int .u8 0) 1 rfl Try.underlying24 info5 rfl (by decide) (by omega) v239 y238 l2_8 _ _ _ (fun k_ => some k_ ≠ (.slice Ao33 t208.length co33 : Value).ownBlock ∧ some k_ ≠ (.slice Ao26 t211.length co26 : Value).ownBlock ∧ some k_ ≠ (.slice Ao29 t214.length co29 : Value).ownBlock ∧ some k_ ≠ (.slice Ao31 t217.length co31 : Value).ownBlock ∧ some k_ ≠ (.slice Ao38 y223.length co38 : Value).ownBlock ∧ some k_ ≠ (.slice Ao40 y226.length co40 : Value).ownBlock ∧ some k_ ≠ (.slice Ao45 y232.length co45 : Value).ownBlock) (fun _ => False) rfl rfl ?aO ?aR (fun _ _ h => h) (fun _ h => h.elim) ?aF ?aB ?aS ?aL ?_
       (case aR => repeat (first | exact (Kd.C_below HR2_8.out HB.out) | (with_reducible refine Kd.C_alloc ?_ _) | (with_reducible refine Kd.C_drewN ?_ _) | (with_reducible refine Kd.C_drew ?_)))
       (case aB => exact (by repeat (first | (with_reducible first | exact HB.out | apply below_alloc | apply pw_below_drewN | apply below_drew1 | refine below_set ?_ GE206.out) | exact HB.out)))
       (case aF => exact (fun k_ hk => ⟨Kd.fresh' (Kd.R_lt (by (with_reducible repeat (first | apply Kd.R_alloc | apply Kd.R_drewN | apply Kd.R_drew)); exact HO210.out)) k_ hk, Kd.fresh' (Kd.R_lt (by (with_reducible repeat (first | apply Kd.R_alloc | apply Kd.R_drewN | apply Kd.R_drew)); exact HO213.out)) k_ hk, Kd.fresh' (Kd.R_lt (by (with_reducible repeat (first | apply Kd.R_alloc | apply Kd.R_drewN | apply Kd.R_drew)); exact HO216.out)) k_ hk, Kd.fresh' (Kd.R_lt (by (with_reducible repeat (first | apply Kd.R_alloc | apply Kd.R_drewN | apply Kd.R_drew)); exact HO219.out)) k_ hk, Kd.fresh' (Kd.R_lt (by (with_reducible repeat (first | apply Kd.R_alloc | apply Kd.R_drewN | apply Kd.R_drew)); exact HO225.out)) k_ hk, Kd.fresh' (Kd.R_lt (by (with_reducible repeat (first | apply Kd.R_alloc | apply Kd.R_drewN | apply Kd.R_drew)); exact HO228.out)) k_ hk, Kd.fresh' (Kd.R_lt (by (with_reducible repeat (first | apply Kd.R_alloc | apply Kd.R_drewN | apply Kd.R_drew)); exact HO234.out)) k_ hk⟩))
       (case aO => exact (by (with_reducible repeat (first | apply Kd.R_alloc | apply Kd.R_drewN | apply Kd.R_drew)); exact HO240.out))
       (case aS => exact (below_size (by repeat (first | (with_reducible first | exact HB.out | apply below_alloc | apply pw_below_drewN | apply below_drew1 | refine below_set ?_ GE206.out) | exact HB.out))))
       (case aL => have := LMc15.out; omega)
       intro v242 w48 ho hb hg hat
       rw [← Ny241.out] at ho
       have n0_ := Aside0.mk (blk_grown (g := gb206) (o := .cells #[.int .u16 a2_0, .int .u16 a2_1, .int .u32 a2_2, .int .u32 a2_3, .int .u8 a2_4, .int .u16 a2_5, .int .i64 a2_6, .int .i64 a2_7, .slice A2_8 l2_8.length c2_8] 26 (0, 0)) (by (with_reducible repeat (first | refine blk_drewN ?_ _ | refine blk_drew ?_ | refine blk_alloc ?_ _)); exact BK206.out) hg (Kd.R_ne HO240.out BK206.out (by decide)))
       have n1_ := Aside0.mk (Kd.R_after (ok := (fun k_ => some k_ ≠ (.slice Ao26 t211.length co26 : Value).ownBlock ∧ some k_ ≠ (.slice Ao29 t214.length co29 : Value).ownBlock ∧ some k_ ≠ (.slice Ao31 t217.length co31 : Value).ownBlock ∧ some k_ ≠ (.slice Ao38 y223.length co38 : Value).ownBlock ∧ some k_ ≠ (.slice Ao40 y226.length co40 : Value).ownBlock ∧ some k_ ≠ (.slice Ao45 y232.length co45 : Value).ownBlock)) (by (with_reducible repeat (first | apply Kd.R_alloc | apply Kd.R_drewN | apply Kd.R_drew)); exact HO210.out) hg hat)
       have n2_ := Aside0.mk (Kd.R_after (ok := (fun k_ => some k_ ≠ (.slice Ao33 t208.length co33 : Value).ownBlock ∧ some k_ ≠ (.slice Ao29 t214.length co29 : Value).ownBlock ∧ some k_ ≠ (.slice Ao31 t217.length co31 : Value).ownBlock ∧ some k_ ≠ (.slice Ao38 y223.length co38 : Value).ownBlock ∧ some k_ ≠ (.slice Ao40 y226.length co40 : Value).ownBlock ∧ some k_ ≠ (.slice Ao45 y232.length co45 : Value).ownBlock)) (by (with_reducible repeat (first | apply Kd.R_alloc | apply Kd.R_drewN | apply Kd.R_drew)); exact HO213.out) hg hat)
       have n3_ := Aside0.mk (Kd.R_after (ok := (fun k_ => some k_ ≠ (.slice Ao33 t208.length co33 : Value).ownBlock ∧ some k_ ≠ (.slice Ao26 t211.length co26 : Value).ownBlock ∧ some k_ ≠ (.slice Ao31 t217.length co31 : Value).ownBlock ∧ some k_ ≠ (.slice Ao38 y223.length co38 : Value).ownBlock ∧ some k_ ≠ (.slice Ao40 y226.length co40 : Value).ownBlock ∧ some k_ ≠ (.slice Ao45 y232.length co45 : Value).ownBlock)) (by (with_reducible repeat (first | apply Kd.R_alloc | apply Kd.R_drewN | apply Kd.R_drew)); exact HO216.out) hg hat)
       have n4_ := Aside0.mk (Kd.R_after (ok := (fun k_ => some k_ ≠ (.slice Ao33 t208.length co33 : Value).ownBlock ∧ some k_ ≠ (.slice Ao26 t211.length co26 : Value).ownBlock ∧ some k_ ≠ (.slice Ao29 t214.length co29 : Value).ownBlock ∧ some k_ ≠ (.slice Ao38 y223.length co38 : Value).ownBlock ∧ some k_ ≠ (.slice Ao40 y226.length co40 : Value).ownBlock ∧ some k_ ≠ (.slice Ao45 y232.length co45 : Value).ownBlock)) (by (with_reducible repeat (first | apply Kd.R_alloc | apply Kd.R_drewN | apply Kd.R_drew)); exact HO219.out) hg hat)
       have n5_ := Aside0.mk (Kd.R_after (ok := (fun k_ => some k_ ≠ (.slice Ao33 t208.length co33 : Value).ownBlock ∧ some k_ ≠ (.slice Ao26 t211.length co26 : Value).ownBlock ∧ some k_ ≠ (.slice Ao29 t214.length co29 : Value).ownBlock ∧ some k_ ≠ (.slice Ao31 t217.length co31 : Value).ownBlock ∧ some k_ ≠ (.slice Ao40 y226.length co40 : Value).ownBlock ∧ some k_ ≠ (.slice Ao45 y232.length co45 : Value).ownBlock)) (by (with_reducible repeat (first | apply Kd.R_alloc | apply Kd.R_drewN | apply Kd.R_drew)); exact HO225.out) hg hat)
       have n6_ := Aside0.mk (Kd.R_after (ok := (fun k_ => some k_ ≠ (.slice Ao33 t208.length co33 : Value).ownBlock ∧ some k_ ≠ (.slice Ao26 t211.length co26 : Value).ownBlock ∧ some k_ ≠ (.slice Ao29 t214.length co29 : Value).ownBlock ∧ some k_ ≠ (.slice Ao31 t217.length co31 : Value).ownBlock ∧ some k_ ≠ (.slice Ao38 y223.length co38 : Value).ownBlock ∧ some k_ ≠ (.slice Ao45 y232.length co45 : Value).ownBlock)) (by (with_reducible repeat (first | apply Kd.R_alloc | apply Kd.R_drewN | apply Kd.R_drew)); exact HO228.out) hg hat)
       have n7_ := Aside0.mk (Kd.R_after (ok := (fun k_ => some k_ ≠ (.slice Ao33 t208.length co33 : Value).ownBlock ∧ some k_ ≠ (.slice Ao26 t211.length co26 : Value).ownBlock ∧ some k_ ≠ (.slice Ao29 t214.length co29 : Value).ownBlock ∧ some k_ ≠ (.slice Ao31 t217.length co31 : Value).ownBlock ∧ some k_ ≠ (.slice Ao38 y223.length co38 : Value).ownBlock ∧ some k_ ≠ (.slice Ao40 y226.length co40 : Value).ownBlock)) (by (with_reducible repeat (first | apply Kd.R_alloc | apply Kd.R_drewN | apply Kd.R_drew)); exact HO234.out) hg hat)
       have n8_ := Aside0.mk (hb)
       have n9_ := Aside0.mk (ho)
       clear BK206
       clear HO210
       clear HO213
       clear HO216
       clear HO219
       clear HO225
       clear HO228
       clear HO234
       clear HB
       clear HO240
       have BK206 := n0_
       have HO210 := n1_
       have HO213 := n2_
       have HO216 := n3_
       have HO219 := n4_
       have HO225 := n5_
       have HO228 := n6_
       have HO234 := n7_
       have HB := n8_
       have HO243 := n9_
       clear n0_ n1_ n2_ n3_ n4_ n5_ n6_ n7_ n8_ n9_
       clear ho hb hg hat
       refine hK.out _ _ ⟨(blk_cell BK206.out 0).trans rfl, (blk_cell BK206.out 1).trans rfl, (blk_cell BK206.out 2).trans rfl, (blk_cell BK206.out 3).trans rfl, (blk_cell BK206.out 4).trans rfl, (blk_cell BK206.out 5).trans rfl, (blk_cell BK206.out 6).trans rfl, (blk_cell BK206.out 7).trans rfl, (blk_cell BK206.out 8).trans rfl⟩ (fun hHeld => ?_)
       clear hK K
       refine norm_ (a' := ?_) ?_ ?_
       rotate_left
       ·
        show Act.put _ (some 57) _ = _
        simp only [Act.put, List.setIfInBounds_toArray, List.set_cons_zero, List.set_cons_succ, i64_w, i32_w]
        rfl
       refine pure_ (i := 6) (N := some 10) (v := ?_) (a' := ?_) #[true, true, true, true, true, true, true] rfl rfl (by kernel_rfl) (fun _ _ _ h => h) (Or.inl ⟨by rfl, ?_⟩) ?_ ?_
       rotate_left
       ·
        intro w'
        go_simp
        with_reducible rfl
       rotate_left
       ·
        simp only [Act.put, List.setIfInBounds_toArray, List.set_cons_zero, List.set_cons_succ, i64_w, i32_w]
        rfl
       refine done_ (by kernel_rfl) ?_
       obtain ⟨Ao49, co49, eo49⟩ := Kd.R_slice HO243.out
       subst eo49
       go_upto_region 11 with (fail)
       have hlim_ : 16 + t245.length ≤ y241.length ∧ 0 < t245.length := LMc18.out
       obtain ⟨gc_, eA0_, hcc_, _⟩ := Go.Proofs.Ytilkbmjkjlbfmaa.HExt.R_block HO243.out (by omega)
       have eA_ := Aside0.mk eA0_
       clear eA0_
       have hnn_ := Aside0.mk (show y241.length = y241.length from (Kd.R_reads' HO243.out).1)
       refine start_ (n := 8) (S := fun _ => True) (ds := []) #[false, false, false, false, false, false, false, false] (by kernel_rfl) rfl rfl trivial (fun hHeld => ?_)
       refine pure_ (i := 0) (N := some 58) (v := ?_) (a' := ?_) #[true, false, false, false, false, false, false, false] rfl rfl (by kernel_rfl) (fun _ _ _ h => h) (Or.inl ⟨by rfl, ?_⟩) ?_ ?_
       rotate_left
       · intro w'
         go_simp
         with_reducible rfl
       rotate_left
       · simp only [Act.put, List.setIfInBounds_toArray, List.set_cons_zero, List.set_cons_succ, i64_w, i32_w]
         rfl
       refine pure_ (i := 1) (N := some 59) (v := .slice (some ⟨gc_, 16, none⟩) (y241.length - 16) (co49 - 16)) (a' := ?_) #[true, true, false, false, false, false, false, false] rfl rfl (by kernel_rfl) (fun _ _ _ h => h) (Or.inl ⟨by rfl, fun w' => Go.Proofs.Ytilkbmjkjlbfmaa.HExt.slice_run _ 16 gc_ y241.length co49 24 5 (.tmp 58) rfl Try.underlying24 (by kernel_rfl) (by rw [← eA_.out]; rfl) (by have := hnn_.out; omega) (by have := hnn_.out; omega) w'⟩) ?_ ?_
       rotate_left
       · simp only [Act.put, List.setIfInBounds_toArray, List.set_cons_zero, List.set_cons_succ, i64_w, i32_w]
         rfl
       refine pure_ (i := 2) (N := some 60) (v := ?_) (a' := ?_) #[true, true, true, false, false, false, false, false] rfl rfl (by kernel_rfl) (fun _ _ _ h => h) (Or.inl ⟨by rfl, ?_⟩) ?_ ?_
       rotate_left
       · intro w'
         go_simp
         with_reducible rfl
       rotate_left
       · simp only [Act.put, List.setIfInBounds_toArray, List.set_cons_zero, List.set_cons_succ, i64_w, i32_w]
         rfl
       refine pure_ (i := 3) (N := some 61) (v := ?_) (a' := ?_) #[true, true, true, true, false, false, false, false] rfl rfl (by kernel_rfl) (fun _ _ _ h => h) (Or.inl ⟨by rfl, ?_⟩) ?_ ?_
       rotate_left
       · intro w'
         go_simp
         with_reducible rfl
       rotate_left
       · simp only [Act.put, List.setIfInBounds_toArray, List.set_cons_zero, List.set_cons_succ, i64_w, i32_w]
         rfl
       refine pure_ (i := 4) (N := some 62) (v := ?_) (a' := ?_) #[true, true, true, true, true, false, false, false] rfl rfl (by kernel_rfl) (fun _ _ _ h => h) (Or.inl ⟨by rfl, ?_⟩) ?_ ?_
       rotate_left
       · intro w'
         go_simp
         with_reducible rfl
       rotate_left
       · simp only [Act.put, List.setIfInBounds_toArray, List.set_cons_zero, List.set_cons_succ, i64_w, i32_w]
         rfl
       refine one_ (i := 5) (N := some 63) #[true, true, true, true, true, true, false, false] rfl rfl (by kernel_rfl) (by decide) (fun K hK => ?_)
       refine goes_ Try.func83 (by kernel_rfl) rfl #[.int .u32 a0, .int .u32 a1, .int .u8 6, .slice Ao49 y241.length co49] (by rfl) rfl rfl (by (try simp only [List.map_toArray, List.map_cons, List.map_nil]); first | done | rfl | (simp only [List.length_drop, List.length_take]; rfl) | (go_simp; done) | (go_simp; omega)) ?_; (with_reducible refine (sum_Of.calls a0 a1 6 _ _ y241 t244 _ ?side1 ?side2 A16.out).mono ?_); (case side1 => repeat (first | exact (Kd.R_reads' HO243.out).2.2 | (with_reducible refine Kd.C_alloc ?_ _) | (with_reducible refine Kd.C_drewN ?_ _) | (with_reducible refine Kd.C_drew ?_))); (case side2 => exact (Kd.R_reads' HO243.out).2.1); rintro e w50 ⟨rfl, hb⟩; refine ⟨_, rfl, ?_⟩; have n0_ := Aside0.mk (Kd.R_below (by (with_reducible repeat (first | apply Kd.R_alloc | apply Kd.R_drewN | apply Kd.R_drew)); exact HO210.out) hb); have n1_ := Aside0.mk (Kd.R_below (by (with_reducible repeat (first | apply Kd.R_alloc | apply Kd.R_drewN | apply Kd.R_drew)); exact HO213.out) hb); have n2_ := Aside0.mk (Kd.R_below (by (with_reducible repeat (first | apply Kd.R_alloc | apply Kd.R_drewN | apply Kd.R_drew)); exact HO216.out) hb); have n3_ := Aside0.mk (Kd.R_below (by (with_reducible repeat (first | apply Kd.R_alloc | apply Kd.R_drewN | apply Kd.R_drew)); exact HO219.out) hb); have n4_ := Aside0.mk (Kd.R_below (by (with_reducible repeat (first | apply Kd.R_alloc | apply Kd.R_drewN | apply Kd.R_drew)); exact HO225.out) hb); have n5_ := Aside0.mk (Kd.R_below (by (with_reducible repeat (first | apply Kd.R_alloc | apply Kd.R_drewN | apply Kd.R_drew)); exact HO228.out) hb); have n6_ := Aside0.mk (Kd.R_below (by (with_reducible repeat (first | apply Kd.R_alloc | apply Kd.R_drewN | apply Kd.R_drew)); exact HO234.out) hb); have n7_ := Aside0.mk (Kd.R_below (by (with_reducible repeat (first | apply Kd.R_alloc | apply Kd.R_drewN | apply Kd.R_drew)); exact HO243.out) hb); have n8_ := Aside0.mk (blk_below (g := gb206) (o := .cells #[.int .u16 a2_0, .int .u16 a2_1, .int .u32 a2_2, .int .u32 a2_3, .int .u8 a2_4, .int .u16 a2_5, .int .i64 a2_6, .int .i64 a2_7, .slice A2_8 l2_8.length c2_8] 26 (0, 0)) (by (with_reducible repeat (first | refine blk_drewN ?_ _ | refine blk_drew ?_ | refine blk_alloc ?_ _)); exact BK206.out) hb); have n9_ := Aside0.mk (below_step (by repeat (first | (with_reducible first | exact HB.out | apply below_alloc | apply pw_below_drewN | apply below_drew1 | refine below_set ?_ GE206.out) | exact HB.out)) hb); clear HO210; clear HO213; clear HO216; clear HO219; clear HO225; clear HO228; clear HO234; clear HO243; clear BK206; clear HB; have HO210 := n0_; have HO213 := n1_; have HO216 := n2_; have HO219 := n3_; have HO225 := n4_; have HO228 := n5_; have HO234 := n6_; have HO243 := n7_; have BK206 := n8_; have HB := n9_; clear n0_ n1_ n2_ n3_ n4_ n5_ n6_ n7_ n8_ n9_; (try clear hb); (try clear hb2); (try clear hk); (try clear hi)
       refine hK.out _ _ trivial (fun hHeld => ?_)
       clear hK K
       refine norm_ (a' := ?_) ?_ ?_
       rotate_left
       · show Act.put _ (some 63) _ = _
         simp only [Act.put, List.setIfInBounds_toArray, List.set_cons_zero, List.set_cons_succ, i64_w, i32_w]
         rfl
       refine one_ (i := 6) (N := some 64) #[true, true, true, true, true, true, true, false] rfl rfl (by kernel_rfl) (by decide) (fun K hK => ?_)
       refine goes_ Try.func63 (by kernel_rfl) rfl #[.slice none 0 0, .int .i64 t244] (by rfl) rfl rfl (by (try simp only [List.map_toArray, List.map_cons, List.map_nil]); first | done | rfl | (simp only [List.length_drop, List.length_take]; rfl) | (go_simp; done) | (go_simp; omega)) ?_; (refine (octet_Put16.calls k _ _ ([] : List Int) t244 t245 _ ?side1 ?side2 A17.out).mono ?_); (case side1 => exact Kd.C_nil _ _); (case side2 => exact Nat.le_refl _); rintro e w51 ⟨v246, rfl, ho0, hb⟩; refine ⟨_, rfl, ?_⟩; have n0_ := Aside0.mk (Kd.R_elder' (by (with_reducible repeat (first | apply Kd.R_alloc | apply Kd.R_drewN | apply Kd.R_drew)); exact HO210.out) (Kd.R_base ho0) hb); have n1_ := Aside0.mk (Kd.R_elder' (by (with_reducible repeat (first | apply Kd.R_alloc | apply Kd.R_drewN | apply Kd.R_drew)); exact HO213.out) (Kd.R_base ho0) hb); have n2_ := Aside0.mk (Kd.R_elder' (by (with_reducible repeat (first | apply Kd.R_alloc | apply Kd.R_drewN | apply Kd.R_drew)); exact HO216.out) (Kd.R_base ho0) hb); have n3_ := Aside0.mk (Kd.R_elder' (by (with_reducible repeat (first | apply Kd.R_alloc | apply Kd.R_drewN | apply Kd.R_drew)); exact HO219.out) (Kd.R_base ho0) hb); have n4_ := Aside0.mk (Kd.R_elder' (by (with_reducible repeat (first | apply Kd.R_alloc | apply Kd.R_drewN | apply Kd.R_drew)); exact HO225.out) (Kd.R_base ho0) hb); have n5_ := Aside0.mk (Kd.R_elder' (by (with_reducible repeat (first | apply Kd.R_alloc | apply Kd.R_drewN | apply Kd.R_drew)); exact HO228.out) (Kd.R_base ho0) hb); have n6_ := Aside0.mk (Kd.R_elder' (by (with_reducible repeat (first | apply Kd.R_alloc | apply Kd.R_drewN | apply Kd.R_drew)); exact HO234.out) (Kd.R_base ho0) hb); have n7_ := Aside0.mk (Kd.R_elder' (by (with_reducible repeat (first | apply Kd.R_alloc | apply Kd.R_drewN | apply Kd.R_drew)); exact HO243.out) (Kd.R_base ho0) hb); have n8_ := Aside0.mk (Kd.R_lower (Kd.R_new' (Kd.R_new' (Kd.R_new' (Kd.R_new' (Kd.R_new' (Kd.R_new' (Kd.R_new' (Kd.R_new' ho0 (Kd.R_lt (by (with_reducible repeat (first | apply Kd.R_alloc | apply Kd.R_drewN | apply Kd.R_drew)); exact HO210.out))) (Kd.R_lt (by (with_reducible repeat (first | apply Kd.R_alloc | apply Kd.R_drewN | apply Kd.R_drew)); exact HO213.out))) (Kd.R_lt (by (with_reducible repeat (first | apply Kd.R_alloc | apply Kd.R_drewN | apply Kd.R_drew)); exact HO216.out))) (Kd.R_lt (by (with_reducible repeat (first | apply Kd.R_alloc | apply Kd.R_drewN | apply Kd.R_drew)); exact HO219.out))) (Kd.R_lt (by (with_reducible repeat (first | apply Kd.R_alloc | apply Kd.R_drewN | apply Kd.R_drew)); exact HO225.out))) (Kd.R_lt (by (with_reducible repeat (first | apply Kd.R_alloc | apply Kd.R_drewN | apply Kd.R_drew)); exact HO228.out))) (Kd.R_lt (by (with_reducible repeat (first | apply Kd.R_alloc | apply Kd.R_drewN | apply Kd.R_drew)); exact HO234.out))) (Kd.R_lt (by (with_reducible repeat (first | apply Kd.R_alloc | apply Kd.R_drewN | apply Kd.R_drew)); exact HO243.out))) (below_size (by repeat (first | (with_reducible first | exact HB.out | apply below_alloc | apply pw_below_drewN | apply below_drew1 | refine below_set ?_ GE206.out) | exact HB.out)))); have n9_ := Aside0.mk (blk_below (g := gb206) (o := .cells #[.int .u16 a2_0, .int .u16 a2_1, .int .u32 a2_2, .int .u32 a2_3, .int .u8 a2_4, .int .u16 a2_5, .int .i64 a2_6, .int .i64 a2_7, .slice A2_8 l2_8.length c2_8] 26 (0, 0)) (by (with_reducible repeat (first | refine blk_drewN ?_ _ | refine blk_drew ?_ | refine blk_alloc ?_ _)); exact BK206.out) hb); have n10_ := Aside0.mk (below_step (by repeat (first | (with_reducible first | exact HB.out | apply below_alloc | apply pw_below_drewN | apply below_drew1 | refine below_set ?_ GE206.out) | exact HB.out)) hb); clear HO210; clear HO213; clear HO216; clear HO219; clear HO225; clear HO228; clear HO234; clear HO243; clear BK206; clear HB; have HO210 := n0_; have HO213 := n1_; have HO216 := n2_; have HO219 := n3_; have HO225 := n4_; have HO228 := n5_; have HO234 := n6_; have HO243 := n7_; have HO247 := n8_; have BK206 := n9_; have HB := n10_; clear n0_ n1_ n2_ n3_ n4_ n5_ n6_ n7_ n8_ n9_ n10_; (try clear hb); (try clear hb2); (try clear hk); (try clear hi); (try clear ho0); (try (obtain ⟨Ao53, co53, eo53⟩ := Kd.R_slice HO247.out; subst eo53))
       refine hK.out _ _ trivial (fun hHeld => ?_)
       clear hK K
       refine norm_ (a' := ?_) ?_ ?_
       rotate_left
       · show Act.put _ (some 64) _ = _
         simp only [Act.put, List.setIfInBounds_toArray, List.set_cons_zero, List.set_cons_succ, i64_w, i32_w]
         rfl
       refine one_ (i := 7) (N := some 65) #[true, true, true, true, true, true, true, true] rfl rfl (by kernel_rfl) (by decide) (fun K hK => ?_)
       refine Go.Proofs.Ytilkbmjkjlbfmaa.HExt.R_copy_rows (w0 := w) w.heap.size rfl (.tmp 59) (.tmp 64) 24 5 rfl Try.underlying24 (by kernel_rfl) 16 gc_ y241.length co49 (co49 - 16) (.slice Ao49 y241.length co49) ?aV y241 t245 _ _ _ (fun k_ => some k_ ≠ (.slice Ao33 t208.length co33 : Value).ownBlock ∧ some k_ ≠ (.slice Ao26 t211.length co26 : Value).ownBlock ∧ some k_ ≠ (.slice Ao29 t214.length co29 : Value).ownBlock ∧ some k_ ≠ (.slice Ao31 t217.length co31 : Value).ownBlock ∧ some k_ ≠ (.slice Ao38 y223.length co38 : Value).ownBlock ∧ some k_ ≠ (.slice Ao40 y226.length co40 : Value).ownBlock ∧ some k_ ≠ (.slice Ao45 y232.length co45 : Value).ownBlock ∧ some k_ ≠ (.slice Ao53 t245.length co53 : Value).ownBlock) rfl rfl ?aO ?aR ?aB ?aS ?aL ?_; (case aR => repeat (first | exact (Kd.R_reads' HO247.out).2.2 | (with_reducible refine Kd.C_alloc ?_ _) | (with_reducible refine Kd.C_drewN ?_ _) | (with_reducible refine Kd.C_drew ?_))); (case aB => exact (by repeat (first | (with_reducible first | exact HB.out | apply below_alloc | apply pw_below_drewN | apply below_drew1 | refine below_set ?_ GE206.out) | exact HB.out))); (case aO => exact (by (with_reducible repeat (first | apply Kd.R_alloc | apply Kd.R_drewN | apply Kd.R_drew)); exact Kd.R_mono HO243.out (fun _ hk => ⟨hk.1.1, ⟨hk.1.2.1, ⟨hk.1.2.2.1, ⟨hk.1.2.2.2.1, ⟨hk.1.2.2.2.2.1, ⟨hk.1.2.2.2.2.2.1, ⟨hk.1.2.2.2.2.2.2, hk.2⟩⟩⟩⟩⟩⟩⟩))); (case aS => exact (below_size (by repeat (first | (with_reducible first | exact HB.out | apply below_alloc | apply pw_below_drewN | apply below_drew1 | refine below_set ?_ GE206.out) | exact HB.out)))); (case aL => exact hlim_); (case aV => rw [eA_.out]); intro v249 w52 hv_ ho hb hg hat; rw [← Ny248.out] at ho; have n0_ := Aside0.mk (blk_grown (g := gb206) (o := .cells #[.int .u16 a2_0, .int .u16 a2_1, .int .u32 a2_2, .int .u32 a2_3, .int .u8 a2_4, .int .u16 a2_5, .int .i64 a2_6, .int .i64 a2_7, .slice A2_8 l2_8.length c2_8] 26 (0, 0)) (by (with_reducible repeat (first | refine blk_drewN ?_ _ | refine blk_drew ?_ | refine blk_alloc ?_ _)); exact BK206.out) hg (Kd.R_ne HO243.out BK206.out (by decide))); have n1_ := Aside0.mk (Kd.R_after (ok := (fun k_ => some k_ ≠ (.slice Ao26 t211.length co26 : Value).ownBlock ∧ some k_ ≠ (.slice Ao29 t214.length co29 : Value).ownBlock ∧ some k_ ≠ (.slice Ao31 t217.length co31 : Value).ownBlock ∧ some k_ ≠ (.slice Ao38 y223.length co38 : Value).ownBlock ∧ some k_ ≠ (.slice Ao40 y226.length co40 : Value).ownBlock ∧ some k_ ≠ (.slice Ao45 y232.length co45 : Value).ownBlock ∧ some k_ ≠ (.slice Ao53 t245.length co53 : Value).ownBlock)) (by (with_reducible repeat (first | apply Kd.R_alloc | apply Kd.R_drewN | apply Kd.R_drew)); exact Kd.R_mono HO210.out (fun _ hk => ⟨⟨hk.1.1.1, ⟨hk.1.1.2.1, ⟨hk.1.1.2.2.1, ⟨hk.1.1.2.2.2.1, ⟨hk.1.1.2.2.2.2.1, ⟨hk.1.1.2.2.2.2.2, hk.2⟩⟩⟩⟩⟩⟩, hk.1.2⟩)) hg hat); have n2_ := Aside0.mk (Kd.R_after (ok := (fun k_ => some k_ ≠ (.slice Ao33 t208.length co33 : Value).ownBlock ∧ some k_ ≠ (.slice Ao29 t214.length co29 : Value).ownBlock ∧ some k_ ≠ (.slice Ao31 t217.length co31 : Value).ownBlock ∧ some k_ ≠ (.slice Ao38 y223.length co38 : Value).ownBlock ∧ some k_ ≠ (.slice Ao40 y226.length co40 : Value).ownBlock ∧ some k_ ≠ (.slice Ao45 y232.length co45 : Value).ownBlock ∧ some k_ ≠ (.slice Ao53 t245.length co53 : Value).ownBlock)) (by (with_reducible repeat (first | apply Kd.R_alloc | apply Kd.R_drewN | apply Kd.R_drew)); exact Kd.R_mono HO213.out (fun _ hk => ⟨⟨hk.1.1.1, ⟨hk.1.1.2.1, ⟨hk.1.1.2.2.1, ⟨hk.1.1.2.2.2.1, ⟨hk.1.1.2.2.2.2.1, ⟨hk.1.1.2.2.2.2.2, hk.2⟩⟩⟩⟩⟩⟩, hk.1.2⟩)) hg hat); have n3_ := Aside0.mk (Kd.R_after (ok := (fun k_ => some k_ ≠ (.slice Ao33 t208.length co33 : Value).ownBlock ∧ some k_ ≠ (.slice Ao26 t211.length co26 : Value).ownBlock ∧ some k_ ≠ (.slice Ao31 t217.length co31 : Value).ownBlock ∧ some k_ ≠ (.slice Ao38 y223.length co38 : Value).ownBlock ∧ some k_ ≠ (.slice Ao40 y226.length co40 : Value).ownBlock ∧ some k_ ≠ (.slice Ao45 y232.length co45 : Value).ownBlock ∧ some k_ ≠ (.slice Ao53 t245.length co53 : Value).ownBlock)) (by (with_reducible repeat (first | apply Kd.R_alloc | apply Kd.R_drewN | apply Kd.R_drew)); exact Kd.R_mono HO216.out (fun _ hk => ⟨⟨hk.1.1.1, ⟨hk.1.1.2.1, ⟨hk.1.1.2.2.1, ⟨hk.1.1.2.2.2.1, ⟨hk.1.1.2.2.2.2.1, ⟨hk.1.1.2.2.2.2.2, hk.2⟩⟩⟩⟩⟩⟩, hk.1.2⟩)) hg hat); have n4_ := Aside0.mk (Kd.R_after (ok := (fun k_ => some k_ ≠ (.slice Ao33 t208.length co33 : Value).ownBlock ∧ some k_ ≠ (.slice Ao26 t211.length co26 : Value).ownBlock ∧ some k_ ≠ (.slice Ao29 t214.length co29 : Value).ownBlock ∧ some k_ ≠ (.slice Ao38 y223.length co38 : Value).ownBlock ∧ some k_ ≠ (.slice Ao40 y226.length co40 : Value).ownBlock ∧ some k_ ≠ (.slice Ao45 y232.length co45 : Value).ownBlock ∧ some k_ ≠ (.slice Ao53 t245.length co53 : Value).ownBlock)) (by (with_reducible repeat (first | apply Kd.R_alloc | apply Kd.R_drewN | apply Kd.R_drew)); exact Kd.R_mono HO219.out (fun _ hk => ⟨⟨hk.1.1.1, ⟨hk.1.1.2.1, ⟨hk.1.1.2.2.1, ⟨hk.1.1.2.2.2.1, ⟨hk.1.1.2.2.2.2.1, ⟨hk.1.1.2.2.2.2.2, hk.2⟩⟩⟩⟩⟩⟩, hk.1.2⟩)) hg hat); have n5_ := Aside0.mk (Kd.R_after (ok := (fun k_ => some k_ ≠ (.slice Ao33 t208.length co33 : Value).ownBlock ∧ some k_ ≠ (.slice Ao26 t211.length co26 : Value).ownBlock ∧ some k_ ≠ (.slice Ao29 t214.length co29 : Value).ownBlock ∧ some k_ ≠ (.slice Ao31 t217.length co31 : Value).ownBlock ∧ some k_ ≠ (.slice Ao40 y226.length co40 : Value).ownBlock ∧ some k_ ≠ (.slice Ao45 y232.length co45 : Value).ownBlock ∧ some k_ ≠ (.slice Ao53 t245.length co53 : Value).ownBlock)) (by (with_reducible repeat (first | apply Kd.R_alloc | apply Kd.R_drewN | apply Kd.R_drew)); exact Kd.R_mono HO225.out (fun _ hk => ⟨⟨hk.1.1.1, ⟨hk.1.1.2.1, ⟨hk.1.1.2.2.1, ⟨hk.1.1.2.2.2.1, ⟨hk.1.1.2.2.2.2.1, ⟨hk.1.1.2.2.2.2.2, hk.2⟩⟩⟩⟩⟩⟩, hk.1.2⟩)) hg hat); have n6_ := Aside0.mk (Kd.R_after (ok := (fun k_ => some k_ ≠ (.slice Ao33 t208.length co33 : Value).ownBlock ∧ some k_ ≠ (.slice Ao26 t211.length co26 : Value).ownBlock ∧ some k_ ≠ (.slice Ao29 t214.length co29 : Value).ownBlock ∧ some k_ ≠ (.slice Ao31 t217.length co31 : Value).ownBlock ∧ some k_ ≠ (.slice Ao38 y223.length co38 : Value).ownBlock ∧ some k_ ≠ (.slice Ao45 y232.length co45 : Value).ownBlock ∧ some k_ ≠ (.slice Ao53 t245.length co53 : Value).ownBlock)) (by (with_reducible repeat (first | apply Kd.R_alloc | apply Kd.R_drewN | apply Kd.R_drew)); exact Kd.R_mono HO228.out (fun _ hk => ⟨⟨hk.1.1.1, ⟨hk.1.1.2.1, ⟨hk.1.1.2.2.1, ⟨hk.1.1.2.2.2.1, ⟨hk.1.1.2.2.2.2.1, ⟨hk.1.1.2.2.2.2.2, hk.2⟩⟩⟩⟩⟩⟩, hk.1.2⟩)) hg hat); have n7_ := Aside0.mk (Kd.R_after (ok := (fun k_ => some k_ ≠ (.slice Ao33 t208.length co33 : Value).ownBlock ∧ some k_ ≠ (.slice Ao26 t211.length co26 : Value).ownBlock ∧ some k_ ≠ (.slice Ao29 t214.length co29 : Value).ownBlock ∧ some k_ ≠ (.slice Ao31 t217.length co31 : Value).ownBlock ∧ some k_ ≠ (.slice Ao38 y223.length co38 : Value).ownBlock ∧ some k_ ≠ (.slice Ao40 y226.length co40 : Value).ownBlock ∧ some k_ ≠ (.slice Ao53 t245.length co53 : Value).ownBlock)) (by (with_reducible repeat (first | apply Kd.R_alloc | apply Kd.R_drewN | apply Kd.R_drew)); exact Kd.R_mono HO234.out (fun _ hk => ⟨⟨hk.1.1.1, ⟨hk.1.1.2.1, ⟨hk.1.1.2.2.1, ⟨hk.1.1.2.2.2.1, ⟨hk.1.1.2.2.2.2.1, ⟨hk.1.1.2.2.2.2.2, hk.2⟩⟩⟩⟩⟩⟩, hk.1.2⟩)) hg hat); have n8_ := Aside0.mk (Kd.R_after (ok := (fun k_ => some k_ ≠ (.slice Ao33 t208.length co33 : Value).ownBlock ∧ some k_ ≠ (.slice Ao26 t211.length co26 : Value).ownBlock ∧ some k_ ≠ (.slice Ao29 t214.length co29 : Value).ownBlock ∧ some k_ ≠ (.slice Ao31 t217.length co31 : Value).ownBlock ∧ some k_ ≠ (.slice Ao38 y223.length co38 : Value).ownBlock ∧ some k_ ≠ (.slice Ao40 y226.length co40 : Value).ownBlock ∧ some k_ ≠ (.slice Ao45 y232.length co45 : Value).ownBlock)) (by (with_reducible repeat (first | apply Kd.R_alloc | apply Kd.R_drewN | apply Kd.R_drew)); exact Kd.R_mono HO247.out (fun _ hk => ⟨⟨hk.1.1.1.1.1.1.1.2, ⟨hk.1.1.1.1.1.1.2, ⟨hk.1.1.1.1.1.2, ⟨hk.1.1.1.1.2, ⟨hk.1.1.1.2, ⟨hk.1.1.2, hk.1.2⟩⟩⟩⟩⟩⟩, hk.2⟩)) hg hat); have n9_ := Aside0.mk (hb); have n10_ := Aside0.mk (ho); clear BK206; clear HO210; clear HO213; clear HO216; clear HO219; clear HO225; clear HO228; clear HO234; clear HO247; clear HB; clear HO243; have BK206 := n0_; have HO210 := n1_; have HO213 := n2_; have HO216 := n3_; have HO219 := n4_; have HO225 := n5_; have HO228 := n6_; have HO234 := n7_; have HO247 := n8_; have HB := n9_; have HO250 := n10_; clear n0_ n1_ n2_ n3_ n4_ n5_ n6_ n7_ n8_ n9_ n10_; clear ho hb hg hat
       refine hK.out _ _ trivial (fun hHeld => ?_)
       clear hK K
       refine norm_ (a' := ?_) ?_ ?_
       rotate_left
       · show Act.put _ (some 65) _ = _
         simp only [Act.put, List.setIfInBounds_toArray, List.set_cons_zero, List.set_cons_succ, i64_w, i32_w]
         rw [← hv_]
       clear hv_ eA_ hcc_ hlim_ hnn_
       refine done_ (by kernel_rfl) ?_
       try go_wp2
       go_ret2
       exact ⟨_, by first | rfl | (simp [errW_none, errW_some] <;> rfl) | (simp [*, errW_none, errW_some] <;> rfl), by (with_reducible repeat (first | apply Kd.R_alloc | apply Kd.R_drewN | apply Kd.R_drew)); exact Kd.R_mono HO250.out (fun _ hk => trivial), by repeat (first | (with_reducible first | exact HB.out | apply below_alloc | apply pw_below_drewN | apply below_drew1 | refine below_set ?_ GE206.out) | exact HB.out)⟩
      ·
       rw [if_neg c18] at H
       exact absurd H (by simp)
     ·
      rw [if_neg c15] at H
      exact absurd H (by simp)
    ·
     rw [if_neg c14] at H
     exact absurd H (by simp)
   ·
    rw [if_neg c13] at H
    exact absurd H (by simp)
  ·
   rw [if_neg c11] at H
   exact absurd H (by simp)
 ·
  rw [if_neg c5] at H
  have c5b0 : (t207 == 0) = false := beq_eq_false_iff_ne.mpr c5
  have c5b1 : (t207 != 0) = true := bne_iff_ne.mpr c5
  simp only [Option.some.injEq, Prod.mk.injEq] at H
  obtain ⟨rfl, rfl⟩ := H
  go_enter Try.func54, Try.ntmps54
  go_wp2_with (first | ((with_reducible refine gate_dst (N := 5) rfl ?_); refine box_event ?hg (N := 5) ?hd (cs := #[.int .u16 a2_0, .int .u16 a2_1, .int .u32 a2_2, .int .u32 a2_3, .int .u8 a2_4, .int .u16 a2_5, .int .i64 a2_6, .int .i64 a2_7, .slice A2_8 l2_8.length c2_8]) (t := 26) ?hr ?_; (case hd => rfl); (case hg => rfl); (case hr => first | (go_simp; done) | (go_simp; rfl)); intro gb206 hg w54 hbox hb; have n0_ := Aside0.mk (below_step (by repeat (first | (with_reducible first | exact HB.out | apply below_alloc | apply pw_below_drewN | apply below_drew1) | exact HB.out)) hb); have n1_ := Aside0.mk (hbox); have n2_ := Aside0.mk ((by rw [hg]; exact (below_size (by repeat (first | (with_reducible first | exact HB.out | apply below_alloc | apply pw_below_drewN | apply below_drew1) | exact HB.out))) : w.heap.size ≤ gb206)); have n3_ := Aside0.mk ((by rw [hg]; exact (below_size (by repeat (first | (with_reducible first | exact HB.out | apply below_alloc | apply pw_below_drewN | apply below_drew1) | exact HB.out))) : w.heap.size ≤ gb206)); clear HB; have HB := n0_; have BK206 := n1_; have GW206 := n2_; have GE206 := n3_; clear n0_ n1_ n2_ n3_; clear hb hbox hg; have hcz55 := blk_cell BK206.out; have hfz55 := blk_frozen BK206.out; have hfz55_8 := blk_frozen BK206.out 8) | ((with_reducible refine gate_callee (f := 55) rfl ?_); refine goesL_ (some 12) rfl rfl Try.func55 (by kernel_rfl) rfl #[.agg #[.int .u16 a2_0, .int .u16 a2_1, .int .u32 a2_2, .int .u32 a2_3, .int .u8 a2_4, .int .u16 a2_5, .int .i64 a2_6, .int .i64 a2_7, .slice A2_8 l2_8.length c2_8]] rfl (by (try simp only [List.map_toArray, List.map_cons, List.map_nil]); first | done | rfl | (simp only [List.length_drop, List.length_take]; rfl) | (go_simp; done) | (go_simp; omega)) ?_; (with_reducible refine (seg_Check.calls k a2_0 a2_1 a2_2 a2_3 a2_4 a2_5 a2_6 a2_7 _ _ l2_8 t207 _ ?side1 ?side2 A4.out).mono ?_); (case side1 => repeat (first | exact (Kd.C_below HR2_8.out HB.out) | (with_reducible refine Kd.C_alloc ?_ _) | (with_reducible refine Kd.C_drewN ?_ _) | (with_reducible refine Kd.C_drew ?_))); (case side2 => exact HC2_8.out); rintro e w56 ⟨rfl, hb⟩; refine ⟨_, rfl, ?_⟩; have n0_ := Aside0.mk (blk_below (g := gb206) (o := .cells #[.int .u16 a2_0, .int .u16 a2_1, .int .u32 a2_2, .int .u32 a2_3, .int .u8 a2_4, .int .u16 a2_5, .int .i64 a2_6, .int .i64 a2_7, .slice A2_8 l2_8.length c2_8] 26 (0, 0)) (by (with_reducible repeat (first | refine blk_drewN ?_ _ | refine blk_drew ?_ | refine blk_alloc ?_ _)); exact BK206.out) hb); have n1_ := Aside0.mk (below_step (by repeat (first | (with_reducible first | exact HB.out | apply below_alloc | apply pw_below_drewN | apply below_drew1 | refine below_set ?_ GE206.out) | exact HB.out)) hb); clear BK206; clear HB; have BK206 := n0_; have HB := n1_; clear n0_ n1_; (try clear hb); (try clear hb2); (try clear hk); (try clear hi)))
  go_ret2
  exact ⟨_, by first | rfl | (simp [errW_none, errW_some] <;> rfl) | (simp [*, errW_none, errW_some] <;> rfl), by first | exact Kd.R_nil _ _ _ _ _ | exact Kd.N_nil _ _ _ _ _ | exact Kd.V_nil _ _ _ _ _ | exact Kd.Q_nil _ _ _ _ _ | exact Kd.S_nil _ _ _ _ _, by repeat (first | (with_reducible first | exact HB.out | apply below_alloc | apply pw_below_drewN | apply below_drew1 | refine below_set ?_ GE206.out) | exact HB.out)⟩

end Go.Proofs.Ytilkbmjkjlbfmaa.PSegP
