-- Laid by a program of this session (wip/tools/mk.py) over the kit's print: functions, contracts, walks; not written by hand, not trusted: Lean checks it.
import Derived.Test.YtcebnaknodghcaaDoorPTelx0
import Derived.Test.YtcebnaknodghcaaDoorPTelx1
namespace Go.Proofs.YtcebnaknodghcaaDoor.PTel
open Go.RowKit Go.Proofs.YtcebnaknodghcaaDoorW.PrintWords Go.Proofs.YtcebnaknodghcaaDoorW.PrintLast Go.Proofs.YtcebnaknodghcaaDoorW.PrintMore
attribute [local go_sem] max2_int min2_int max_two min_two max_three min_three max_four min_four   -- for this text's walks alone
set_option linter.unusedVariables false
set_option linter.unusedSimpArgs false

/-! ### tell_Mark: function 15 -/
def tell_Mark.j0 : Nat → ByteArray → Int → Int → Int → Int → Int → Int → Int → Int → Int → Int → Int → Int → Int → Int → List Int → Int → Int → Int → Int → List Int → Int → Int → List Int → Option (ByteArray)
 | 0, _, _, _, _, _, _, _, _, _, _, _, _, _, _, _, _, _, _, _, _, _, _, _, _ => none
 | k + 1, x3, x122000, x122001, x122002, x122003, x122004, x122005, x122006, x122007, x122008, x122009, x122010, x122011, x122012, x122013, x122014, x122015, x122016, x122017, x122018, x122019, x122020, x122021, x122022 => if (Go.bits .and .u8 x122017 2) = 0 then (some x3) else ((tell_num.f x122018).bind fun t157 => ((tell_words.f (([x3, (⟨#[98, 117, 102]⟩ : ByteArray), t157] : List ByteArray))).bind fun t161 => (some t161)))
def tell_Mark.f (k : Nat) (a0_0 : Int) (a0_1 : Int) (a0_2 : Int) (a0_3 : Int) (a0_4 : Int) (a0_5 : Int) (a0_6 : Int) (a0_7 : Int) (a0_8 : Int) (a0_9 : Int) (a0_10 : Int) (a0_11 : Int) (a0_12 : Int) (a0_13 : Int) (l0_14 : List Int) (a0_15 : Int) (a0_16 : Int) (a0_17 : Int) (a0_18 : Int) (l0_19 : List Int) (a0_20 : Int) (a0_21 : Int) (l0_22 : List Int) : Option (ByteArray) := if a0_0 = 3 then ((tell_num.f a0_1).bind fun t122 => ((tell_num.f a0_21).bind fun t123 => ((tell_words.f (([(⟨#[104, 111, 115, 116]⟩ : ByteArray), t122, (⟨#[109, 111, 118, 101]⟩ : ByteArray), t123] : List ByteArray))).bind fun t127 => (some t127)))) else ((tell_num.f a0_1).bind fun t128 => ((tell_num.f a0_2).bind fun t129 => ((tell_num.f a0_3).bind fun t130 => ((tell_words.f (([(⟨#[104, 111, 115, 116]⟩ : ByteArray), t128, (⟨#[99, 116, 120]⟩ : ByteArray), t129, (⟨#[116, 105, 99, 107, 101, 116]⟩ : ByteArray), t130] : List ByteArray))).bind fun t134 => (if a0_0 = 0 then ((entry_Name.f (wrap64 (a0_4))).bind fun t135 => ((tell_user.f a0_13).bind fun t136 => ((tell_words.f (([t134, (⟨#[116, 111, 111, 107]⟩ : ByteArray), t135, t136] : List ByteArray))).bind fun t140 => (some t140)))) else (if a0_0 = 1 then ((tell_num.f a0_21).bind fun t141 => ((tell_num.f (l0_22.length : Int)).bind fun t142 => ((tell_words.f (([t134, (⟨#[100, 105, 100]⟩ : ByteArray), t141, (⟨#[98, 121, 116, 101, 115]⟩ : ByteArray), t142] : List ByteArray))).bind fun t146 => (some t146)))) else (if a0_0 = 2 then ((tell_num.f a0_16).bind fun t147 => ((tell_user.f a0_15).bind fun t148 => ((tell_words.f (([t134, (⟨#[100, 111, 110, 101]⟩ : ByteArray), t147, t148] : List ByteArray))).bind fun t152 => (if (Go.bits .and .u8 a0_17 1) = 0 then (tell_Mark.j0 k t152 a0_0 a0_1 a0_2 a0_3 a0_4 a0_5 a0_6 a0_7 a0_8 a0_9 a0_10 a0_11 a0_12 a0_13 l0_14 a0_15 a0_16 a0_17 a0_18 l0_19 a0_20 a0_21 l0_22) else ((tell_words.f (([t152, (⟨#[109, 111, 114, 101]⟩ : ByteArray)] : List ByteArray))).bind fun t156 => (tell_Mark.j0 k t156 a0_0 a0_1 a0_2 a0_3 a0_4 a0_5 a0_6 a0_7 a0_8 a0_9 a0_10 a0_11 a0_12 a0_13 l0_14 a0_15 a0_16 a0_17 a0_18 l0_19 a0_20 a0_21 l0_22)))))) else (some (⟨#[63]⟩ : ByteArray)))))))))
theorem tell_Mark.mono_l : ∀ k, (∀ y0 y1 y2 y3 y4 y5 y6 y7 y8 y9 y10 y11 y12 y13 y14 y15 y16 y17 y18 y19 y20 y21 y22 y23, LeO (tell_Mark.j0 k y0 y1 y2 y3 y4 y5 y6 y7 y8 y9 y10 y11 y12 y13 y14 y15 y16 y17 y18 y19 y20 y21 y22 y23) (tell_Mark.j0 (k + 1) y0 y1 y2 y3 y4 y5 y6 y7 y8 y9 y10 y11 y12 y13 y14 y15 y16 y17 y18 y19 y20 y21 y22 y23))
 | 0 => fun _ _ _ _ _ _ _ _ _ _ _ _ _ _ _ _ _ _ _ _ _ _ _ _ r h => by simp [tell_Mark.j0] at h
 | k + 1 => by
  have ih0 := tell_Mark.mono_l k
  ·
   intro y0 y1 y2 y3 y4 y5 y6 y7 y8 y9 y10 y11 y12 y13 y14 y15 y16 y17 y18 y19 y20 y21 y22 y23
   unfold tell_Mark.j0
   repeat' first
   | (with_reducible exact ih0 _ _ _ _ _ _ _ _ _ _ _ _ _ _ _ _ _ _ _ _ _ _ _ _)
   | (with_reducible exact LeO.refl _)
   | (with_reducible exact LeO.none _)
   | (with_reducible refine LeO.ite ?_ ?_)
   | (with_reducible refine LeO.bind ?_ (fun _ => ?_))
   | exact ih0 _ _ _ _ _ _ _ _ _ _ _ _ _ _ _ _ _ _ _ _ _ _ _ _
   | exact LeO.none _
   | refine LeO.ite ?_ ?_
   | refine LeO.bind ?_ (fun _ => ?_)
theorem tell_Mark.mono : ∀ a0 a1 a2 a3 a4 a5 a6 a7 a8 a9 a10 a11 a12 a13 a14 a15 a16 a17 a18 a19 a20 a21 a22 k, LeO (tell_Mark.f k a0 a1 a2 a3 a4 a5 a6 a7 a8 a9 a10 a11 a12 a13 a14 a15 a16 a17 a18 a19 a20 a21 a22) (tell_Mark.f (k + 1) a0 a1 a2 a3 a4 a5 a6 a7 a8 a9 a10 a11 a12 a13 a14 a15 a16 a17 a18 a19 a20 a21 a22) := by
 intro a0 a1 a2 a3 a4 a5 a6 a7 a8 a9 a10 a11 a12 a13 a14 a15 a16 a17 a18 a19 a20 a21 a22 k
 have ih0 := tell_Mark.mono_l k
 unfold tell_Mark.f
 repeat' first
   | (with_reducible exact ih0 _ _ _ _ _ _ _ _ _ _ _ _ _ _ _ _ _ _ _ _ _ _ _ _)
   | (with_reducible exact LeO.refl _)
   | (with_reducible exact LeO.none _)
   | (with_reducible refine LeO.ite ?_ ?_)
   | (with_reducible refine LeO.bind ?_ (fun _ => ?_))
   | exact ih0 _ _ _ _ _ _ _ _ _ _ _ _ _ _ _ _ _ _ _ _ _ _ _ _
   | exact LeO.none _
   | refine LeO.ite ?_ ?_
   | refine LeO.bind ?_ (fun _ => ?_)
def tell_Mark.T2 : Bool × List (List Nat × List Nat) := (true, [([], []), ([0], [0]), ([1], [1]), ([], []), ([3], [3]), ([4, 2], [4]), ([2, 5], [2, 5]), ([6, 5], [6]), ([7, 7, 0, 1, 2, 3, 4, 5, 6, 7], [7])])
def tell_Mark.B2 : List Nat := [0, 1, 3, 0, 8, 31, 63, 127, 255]
theorem tell_Mark.tab2 : rtab .any (opsOf Tryd.f15 2) = tell_Mark.T2 := by kernel_rfl
theorem tell_Mark.bits2 : waitsOk tell_Mark.T2.2 tell_Mark.B2 = true := by kernel_rfl
def tell_Mark.T3 : Bool × List (List Nat × List Nat) := (true, [([], []), ([0], [0]), ([1], [1]), ([], []), ([3], [3]), ([4, 2], [4]), ([], []), ([6], [6]), ([7, 5], [7]), ([2, 5, 8], [2, 5, 8]), ([9, 8], [9]), ([10, 10, 0, 1, 2, 3, 4, 5, 6, 7, 8, 9, 10], [10])])
def tell_Mark.B3 : List Nat := [0, 1, 3, 0, 8, 31, 0, 64, 255, 511, 1023, 2047]
theorem tell_Mark.tab3 : rtab .any (opsOf Tryd.f15 3) = tell_Mark.T3 := by kernel_rfl
theorem tell_Mark.bits3 : waitsOk tell_Mark.T3.2 tell_Mark.B3 = true := by kernel_rfl
def tell_Mark.T6 : Bool × List (List Nat × List Nat) := (true, [([], []), ([], []), ([1], [1]), ([2], [2]), ([3], [3]), ([4], [4]), ([], []), ([6], [6]), ([7], [7]), ([8, 5], [8]), ([0, 5, 9], [0, 5, 9]), ([10, 9], [10]), ([11, 11, 0, 1, 2, 3, 4, 5, 6, 7, 8, 9, 10, 11], [11])])
def tell_Mark.B6 : List Nat := [0, 0, 2, 6, 14, 30, 0, 64, 192, 510, 1023, 2047, 4095]
theorem tell_Mark.tab6 : rtab .any (opsOf Tryd.f15 6) = tell_Mark.T6 := by kernel_rfl
theorem tell_Mark.bits6 : waitsOk tell_Mark.T6.2 tell_Mark.B6 = true := by kernel_rfl
def tell_Mark.T8 : Bool × List (List Nat × List Nat) := (true, [([], []), ([], []), ([1], [1]), ([2], [2]), ([], []), ([4], [4]), ([5], [5]), ([6, 3], [6]), ([0, 3, 7], [0, 3, 7]), ([8, 7], [8]), ([9, 9, 0, 1, 2, 3, 4, 5, 6, 7, 8, 9], [9])])
def tell_Mark.B8 : List Nat := [0, 0, 2, 6, 0, 16, 48, 126, 255, 511, 1023]
theorem tell_Mark.tab8 : rtab .any (opsOf Tryd.f15 8) = tell_Mark.T8 := by kernel_rfl
theorem tell_Mark.bits8 : waitsOk tell_Mark.T8.2 tell_Mark.B8 = true := by kernel_rfl
def tell_Mark.T10 : Bool × List (List Nat × List Nat) := (true, [([], []), ([], []), ([1], [1]), ([2], [2]), ([3], [3]), ([], []), ([5], [5]), ([6], [6]), ([7, 4], [7]), ([0, 4, 8], [0, 4, 8]), ([9, 8], [9]), ([10, 10, 0, 1, 2, 3, 4, 5, 6, 7, 8, 9, 10], [0, 10])])
def tell_Mark.B10 : List Nat := [0, 0, 2, 6, 14, 0, 32, 96, 254, 511, 1023, 2047]
theorem tell_Mark.tab10 : rtab .any (opsOf Tryd.f15 10) = tell_Mark.T10 := by kernel_rfl
theorem tell_Mark.bits10 : waitsOk tell_Mark.T10.2 tell_Mark.B10 = true := by kernel_rfl
set_option maxHeartbeats 8000000 in
set_option maxRecDepth 100000 in
theorem tell_Mark.calls (k : Nat) (a0_0 : Int) (a0_1 : Int) (a0_2 : Int) (a0_3 : Int) (a0_4 : Int) (a0_5 : Int) (a0_6 : Int) (a0_7 : Int) (a0_8 : Int) (a0_9 : Int) (a0_10 : Int) (a0_11 : Int) (a0_12 : Int) (a0_13 : Int) (A0_14 : Option Addr) (c0_14 : Nat) (l0_14 : List Int) (a0_15 : Int) (a0_16 : Int) (a0_17 : Int) (a0_18 : Int) (A0_19 : Option Addr) (c0_19 : Nat) (l0_19 : List Int) (a0_20 : Int) (a0_21 : Int) (A0_22 : Option Addr) (c0_22 : Nat) (l0_22 : List Int) (r : ByteArray) (w : World) (ht : Go.Proofs.YtcebnaknodghcaaDoor.HItoa.Tab w) (hr0_14 : Kd.C (Kd.int .u8) w A0_14 l0_14.length l0_14) (hc0_14 : l0_14.length ≤ c0_14) (hr0_19 : Kd.C (Kd.int .u8) w A0_19 l0_19.length l0_19) (hc0_19 : l0_19.length ≤ c0_19) (hr0_22 : Kd.C (Kd.int .u8) w A0_22 l0_22.length l0_22) (hc0_22 : l0_22.length ≤ c0_22) (h : tell_Mark.f k a0_0 a0_1 a0_2 a0_3 a0_4 a0_5 a0_6 a0_7 a0_8 a0_9 a0_10 a0_11 a0_12 a0_13 l0_14 a0_15 a0_16 a0_17 a0_18 l0_19 a0_20 a0_21 l0_22 = some r) :
  Calls Tryd.prog 15 #[.agg #[.int .i64 a0_0, .int .i64 a0_1, .int .i64 a0_2, .int .i64 a0_3, .int .u8 a0_4, .int .u8 a0_5, .int .i64 a0_6, .int .u32 a0_7, .int .u16 a0_8, .int .i64 a0_9, .int .i64 a0_10, .int .i64 a0_11, .int .u64 a0_12, .int .u64 a0_13, .slice A0_14 l0_14.length c0_14, .int .u64 a0_15, .int .i64 a0_16, .int .u8 a0_17, .int .i64 a0_18, .slice A0_19 l0_19.length c0_19, .int .i64 a0_20, .int .i64 a0_21, .slice A0_22 l0_22.length c0_22]] w fun e w' => e = .returned (.string r) ∧ Below w.heap.size w w' := by
 have HT := Aside0.mk ht
 clear ht
 have hu35 := Tryd.underlying35
 have HR0_14 := Aside0.mk hr0_14
 have HC0_14 := Aside0.mk hc0_14
 clear hr0_14 hc0_14
 have HR0_19 := Aside0.mk hr0_19
 have HC0_19 := Aside0.mk hc0_19
 clear hr0_19 hc0_19
 have HR0_22 := Aside0.mk hr0_22
 have HC0_22 := Aside0.mk hc0_22
 clear hr0_22 hc0_22
 have HB := Aside0.mk (Below.refl w.heap.size w)
 have H : (if a0_0 = 3 then ((tell_num.f a0_1).bind fun t122 => ((tell_num.f a0_21).bind fun t123 => ((tell_words.f (([(⟨#[104, 111, 115, 116]⟩ : ByteArray), t122, (⟨#[109, 111, 118, 101]⟩ : ByteArray), t123] : List ByteArray))).bind fun t127 => (some t127)))) else ((tell_num.f a0_1).bind fun t128 => ((tell_num.f a0_2).bind fun t129 => ((tell_num.f a0_3).bind fun t130 => ((tell_words.f (([(⟨#[104, 111, 115, 116]⟩ : ByteArray), t128, (⟨#[99, 116, 120]⟩ : ByteArray), t129, (⟨#[116, 105, 99, 107, 101, 116]⟩ : ByteArray), t130] : List ByteArray))).bind fun t134 => (if a0_0 = 0 then ((entry_Name.f (wrap64 (a0_4))).bind fun t135 => ((tell_user.f a0_13).bind fun t136 => ((tell_words.f (([t134, (⟨#[116, 111, 111, 107]⟩ : ByteArray), t135, t136] : List ByteArray))).bind fun t140 => (some t140)))) else (if a0_0 = 1 then ((tell_num.f a0_21).bind fun t141 => ((tell_num.f (l0_22.length : Int)).bind fun t142 => ((tell_words.f (([t134, (⟨#[100, 105, 100]⟩ : ByteArray), t141, (⟨#[98, 121, 116, 101, 115]⟩ : ByteArray), t142] : List ByteArray))).bind fun t146 => (some t146)))) else (if a0_0 = 2 then ((tell_num.f a0_16).bind fun t147 => ((tell_user.f a0_15).bind fun t148 => ((tell_words.f (([t134, (⟨#[100, 111, 110, 101]⟩ : ByteArray), t147, t148] : List ByteArray))).bind fun t152 => (if (Go.bits .and .u8 a0_17 1) = 0 then (tell_Mark.j0 k t152 a0_0 a0_1 a0_2 a0_3 a0_4 a0_5 a0_6 a0_7 a0_8 a0_9 a0_10 a0_11 a0_12 a0_13 l0_14 a0_15 a0_16 a0_17 a0_18 l0_19 a0_20 a0_21 l0_22) else ((tell_words.f (([t152, (⟨#[109, 111, 114, 101]⟩ : ByteArray)] : List ByteArray))).bind fun t156 => (tell_Mark.j0 k t156 a0_0 a0_1 a0_2 a0_3 a0_4 a0_5 a0_6 a0_7 a0_8 a0_9 a0_10 a0_11 a0_12 a0_13 l0_14 a0_15 a0_16 a0_17 a0_18 l0_19 a0_20 a0_21 l0_22)))))) else (some (⟨#[63]⟩ : ByteArray)))))))))) = some r := h
 clear h
 by_cases c2 : a0_0 = 3
 ·
  rw [if_pos c2] at H
  have c2b0 : (a0_0 == 3) = true := beq_iff_eq.mpr c2
  have c2b1 : (a0_0 != 3) = false := bne_eq_false_iff_eq.mpr c2
  clear c2
  replace H := Option.bind_eq_some_iff.mp H
  obtain ⟨t122, A30, H⟩ := H
  replace H : ((tell_num.f a0_21).bind fun t123 => ((tell_words.f (([(⟨#[104, 111, 115, 116]⟩ : ByteArray), t122, (⟨#[109, 111, 118, 101]⟩ : ByteArray), t123] : List ByteArray))).bind fun t127 => (some t127))) = some r := H
  have A3 := Aside0.mk A30
  clear A30
  replace H := Option.bind_eq_some_iff.mp H
  obtain ⟨t123, A40, H⟩ := H
  replace H : ((tell_words.f (([(⟨#[104, 111, 115, 116]⟩ : ByteArray), t122, (⟨#[109, 111, 118, 101]⟩ : ByteArray), t123] : List ByteArray))).bind fun t127 => (some t127)) = some r := H
  have A4 := Aside0.mk A40
  clear A40
  obtain ⟨y124, hy124⟩ : ∃ y_ : List ByteArray, y_ = (([(⟨#[104, 111, 115, 116]⟩ : ByteArray), t122, (⟨#[109, 111, 118, 101]⟩ : ByteArray), t123] : List ByteArray)) := ⟨_, rfl⟩
  replace H : ((tell_words.f y124).bind fun t127 => (some t127)) = some r := by first | (rw [hy124]; with_reducible exact H) | (have H2_ := (Option.bind_some _ _).symm.trans H; rw [hy124]; with_reducible exact H2_) | (have H2_ := (Option.bind_some _ _).symm.trans H; with_reducible exact H2_) | with_reducible exact H | (rw [hy124]; exact H) | exact H
  have Ny124 := Aside0.mk hy124
  clear hy124
  replace H := Option.bind_eq_some_iff.mp H
  obtain ⟨t127, A50, H⟩ := H
  replace H : (some t127) = some r := H
  have A5 := Aside0.mk A50
  clear A50
  obtain rfl := Option.some.inj H
  go_enter Tryd.func15, Tryd.ntmps15
  try go_wp2_with (first | ((with_reducible refine gate_dst (N := 1) rfl ?_); refine box_event ?hg (N := 1) ?hd (cs := #[.int .i64 a0_0, .int .i64 a0_1, .int .i64 a0_2, .int .i64 a0_3, .int .u8 a0_4, .int .u8 a0_5, .int .i64 a0_6, .int .u32 a0_7, .int .u16 a0_8, .int .i64 a0_9, .int .i64 a0_10, .int .i64 a0_11, .int .u64 a0_12, .int .u64 a0_13, .slice A0_14 l0_14.length c0_14, .int .u64 a0_15, .int .i64 a0_16, .int .u8 a0_17, .int .i64 a0_18, .slice A0_19 l0_19.length c0_19, .int .i64 a0_20, .int .i64 a0_21, .slice A0_22 l0_22.length c0_22]) (t := 35) ?hr ?_; (case hd => rfl); (case hg => rfl); (case hr => first | (go_simp; done) | (go_simp; rfl)); intro gb121 hg w6 hbox hb; have n0_ := Aside0.mk (below_step (by repeat (first | (with_reducible first | exact HB.out | apply below_alloc | apply pw_below_drewN | apply below_drew1) | exact HB.out)) hb); have n1_ := Aside0.mk (hbox); have n2_ := Aside0.mk ((by rw [hg]; exact (below_size (by repeat (first | (with_reducible first | exact HB.out | apply below_alloc | apply pw_below_drewN | apply below_drew1) | exact HB.out))) : w.heap.size ≤ gb121)); have n3_ := Aside0.mk ((by rw [hg]; exact (below_size (by repeat (first | (with_reducible first | exact HB.out | apply below_alloc | apply pw_below_drewN | apply below_drew1) | exact HB.out))) : w.heap.size ≤ gb121)); clear HB; have HB := n0_; have BK121 := n1_; have GW121 := n2_; have GE121 := n3_; clear n0_ n1_ n2_ n3_; clear hb hbox hg; have hcz7_0 : w6.cell? ⟨gb121, 0, none⟩ = some (.int .i64 a0_0) := (blk_cell BK121.out 0).trans rfl; have hcz7_1 : w6.cell? ⟨gb121, 1, none⟩ = some (.int .i64 a0_1) := (blk_cell BK121.out 1).trans rfl; have hcz7_2 : w6.cell? ⟨gb121, 2, none⟩ = some (.int .i64 a0_2) := (blk_cell BK121.out 2).trans rfl; have hcz7_3 : w6.cell? ⟨gb121, 3, none⟩ = some (.int .i64 a0_3) := (blk_cell BK121.out 3).trans rfl; have hcz7_4 : w6.cell? ⟨gb121, 4, none⟩ = some (.int .u8 a0_4) := (blk_cell BK121.out 4).trans rfl; have hcz7_5 : w6.cell? ⟨gb121, 5, none⟩ = some (.int .u8 a0_5) := (blk_cell BK121.out 5).trans rfl; have hcz7_6 : w6.cell? ⟨gb121, 6, none⟩ = some (.int .i64 a0_6) := (blk_cell BK121.out 6).trans rfl; have hcz7_7 : w6.cell? ⟨gb121, 7, none⟩ = some (.int .u32 a0_7) := (blk_cell BK121.out 7).trans rfl; have hcz7_8 : w6.cell? ⟨gb121, 8, none⟩ = some (.int .u16 a0_8) := (blk_cell BK121.out 8).trans rfl; have hcz7_9 : w6.cell? ⟨gb121, 9, none⟩ = some (.int .i64 a0_9) := (blk_cell BK121.out 9).trans rfl; have hcz7_10 : w6.cell? ⟨gb121, 10, none⟩ = some (.int .i64 a0_10) := (blk_cell BK121.out 10).trans rfl; have hcz7_11 : w6.cell? ⟨gb121, 11, none⟩ = some (.int .i64 a0_11) := (blk_cell BK121.out 11).trans rfl; have hcz7_12 : w6.cell? ⟨gb121, 12, none⟩ = some (.int .u64 a0_12) := (blk_cell BK121.out 12).trans rfl; have hcz7_13 : w6.cell? ⟨gb121, 13, none⟩ = some (.int .u64 a0_13) := (blk_cell BK121.out 13).trans rfl; have hcz7_14 : w6.cell? ⟨gb121, 14, none⟩ = some (.slice A0_14 l0_14.length c0_14) := (blk_cell BK121.out 14).trans rfl; have hcz7_15 : w6.cell? ⟨gb121, 15, none⟩ = some (.int .u64 a0_15) := (blk_cell BK121.out 15).trans rfl; have hcz7_16 : w6.cell? ⟨gb121, 16, none⟩ = some (.int .i64 a0_16) := (blk_cell BK121.out 16).trans rfl; have hcz7_17 : w6.cell? ⟨gb121, 17, none⟩ = some (.int .u8 a0_17) := (blk_cell BK121.out 17).trans rfl; have hcz7_18 : w6.cell? ⟨gb121, 18, none⟩ = some (.int .i64 a0_18) := (blk_cell BK121.out 18).trans rfl; have hcz7_19 : w6.cell? ⟨gb121, 19, none⟩ = some (.slice A0_19 l0_19.length c0_19) := (blk_cell BK121.out 19).trans rfl; have hcz7_20 : w6.cell? ⟨gb121, 20, none⟩ = some (.int .i64 a0_20) := (blk_cell BK121.out 20).trans rfl; have hcz7_21 : w6.cell? ⟨gb121, 21, none⟩ = some (.int .i64 a0_21) := (blk_cell BK121.out 21).trans rfl; have hcz7_22 : w6.cell? ⟨gb121, 22, none⟩ = some (.slice A0_22 l0_22.length c0_22) := (blk_cell BK121.out 22).trans rfl; have hfz7_0 := blk_frozen BK121.out 0; have hfz7_1 := blk_frozen BK121.out 1; have hfz7_2 := blk_frozen BK121.out 2; have hfz7_3 := blk_frozen BK121.out 3; have hfz7_4 := blk_frozen BK121.out 4; have hfz7_5 := blk_frozen BK121.out 5; have hfz7_6 := blk_frozen BK121.out 6; have hfz7_7 := blk_frozen BK121.out 7; have hfz7_8 := blk_frozen BK121.out 8; have hfz7_9 := blk_frozen BK121.out 9; have hfz7_10 := blk_frozen BK121.out 10; have hfz7_11 := blk_frozen BK121.out 11; have hfz7_12 := blk_frozen BK121.out 12; have hfz7_13 := blk_frozen BK121.out 13; have hfz7_14 := blk_frozen BK121.out 14; have hfz7_15 := blk_frozen BK121.out 15; have hfz7_16 := blk_frozen BK121.out 16; have hfz7_17 := blk_frozen BK121.out 17; have hfz7_18 := blk_frozen BK121.out 18; have hfz7_19 := blk_frozen BK121.out 19; have hfz7_20 := blk_frozen BK121.out 20; have hfz7_21 := blk_frozen BK121.out 21; have hfz7_22 := blk_frozen BK121.out 22))
  have n0_ := Aside0.mk (blk_drew BK121.out)
  have n1_ := Aside0.mk (below_drew1 HB.out)
  clear BK121
  clear HB
  have BK121 := n0_
  have HB := n1_
  clear n0_ n1_
  refine start_ (n := 9) (S := fun w' => w'.cell? ⟨gb121, 0, none⟩ = some (.int .i64 a0_0) ∧ w'.cell? ⟨gb121, 1, none⟩ = some (.int .i64 a0_1) ∧ w'.cell? ⟨gb121, 2, none⟩ = some (.int .i64 a0_2) ∧ w'.cell? ⟨gb121, 3, none⟩ = some (.int .i64 a0_3) ∧ w'.cell? ⟨gb121, 4, none⟩ = some (.int .u8 a0_4) ∧ w'.cell? ⟨gb121, 5, none⟩ = some (.int .u8 a0_5) ∧ w'.cell? ⟨gb121, 6, none⟩ = some (.int .i64 a0_6) ∧ w'.cell? ⟨gb121, 7, none⟩ = some (.int .u32 a0_7) ∧ w'.cell? ⟨gb121, 8, none⟩ = some (.int .u16 a0_8) ∧ w'.cell? ⟨gb121, 9, none⟩ = some (.int .i64 a0_9) ∧ w'.cell? ⟨gb121, 10, none⟩ = some (.int .i64 a0_10) ∧ w'.cell? ⟨gb121, 11, none⟩ = some (.int .i64 a0_11) ∧ w'.cell? ⟨gb121, 12, none⟩ = some (.int .u64 a0_12) ∧ w'.cell? ⟨gb121, 13, none⟩ = some (.int .u64 a0_13) ∧ w'.cell? ⟨gb121, 14, none⟩ = some (.slice A0_14 l0_14.length c0_14) ∧ w'.cell? ⟨gb121, 15, none⟩ = some (.int .u64 a0_15) ∧ w'.cell? ⟨gb121, 16, none⟩ = some (.int .i64 a0_16) ∧ w'.cell? ⟨gb121, 17, none⟩ = some (.int .u8 a0_17) ∧ w'.cell? ⟨gb121, 18, none⟩ = some (.int .i64 a0_18) ∧ w'.cell? ⟨gb121, 19, none⟩ = some (.slice A0_19 l0_19.length c0_19) ∧ w'.cell? ⟨gb121, 20, none⟩ = some (.int .i64 a0_20) ∧ w'.cell? ⟨gb121, 21, none⟩ = some (.int .i64 a0_21) ∧ w'.cell? ⟨gb121, 22, none⟩ = some (.slice A0_22 l0_22.length c0_22)) (ds := []) #[false, false, false, false, false, false, false, false, false] (by kernel_rfl) rfl rfl ⟨(blk_cell BK121.out 0).trans rfl, (blk_cell BK121.out 1).trans rfl, (blk_cell BK121.out 2).trans rfl, (blk_cell BK121.out 3).trans rfl, (blk_cell BK121.out 4).trans rfl, (blk_cell BK121.out 5).trans rfl, (blk_cell BK121.out 6).trans rfl, (blk_cell BK121.out 7).trans rfl, (blk_cell BK121.out 8).trans rfl, (blk_cell BK121.out 9).trans rfl, (blk_cell BK121.out 10).trans rfl, (blk_cell BK121.out 11).trans rfl, (blk_cell BK121.out 12).trans rfl, (blk_cell BK121.out 13).trans rfl, (blk_cell BK121.out 14).trans rfl, (blk_cell BK121.out 15).trans rfl, (blk_cell BK121.out 16).trans rfl, (blk_cell BK121.out 17).trans rfl, (blk_cell BK121.out 18).trans rfl, (blk_cell BK121.out 19).trans rfl, (blk_cell BK121.out 20).trans rfl, (blk_cell BK121.out 21).trans rfl, (blk_cell BK121.out 22).trans rfl⟩ (fun hHeld => ?_); refine with_tabW tell_Mark.tab2 tell_Mark.bits2 (fun HT_ HW_ => ?_)
  generalize w6.drew = w8 at BK121 HB hHeld ⊢
  refine pure_ (i := 0) (N := some 7) (v := ?_) (a' := ?_) #[true, false, false, false, false, false, false, false, false] rfl rfl (any_of HT_.out (by kernel_rfl)) (fun _ _ _ h => h) (Or.inl ⟨by rfl, ?_⟩) ?_ ?_
  rotate_left
  ·
   intro w'
   go_simp
   with_reducible rfl
  rotate_left
  ·
   simp only [Act.put, List.setIfInBounds_toArray, List.set_cons_zero, List.set_cons_succ, i64_w, i32_w]
   rfl
  refine pure_ (i := 3) (N := some 10) (v := ?_) (a' := ?_) #[true, false, false, true, false, false, false, false, false] rfl rfl (any_of HT_.out (by kernel_rfl)) (fun _ _ _ h => h) (Or.inl ⟨by rfl, ?_⟩) ?_ ?_
  rotate_left
  ·
   intro w'
   go_simp
   with_reducible rfl
  rotate_left
  ·
   simp only [Act.put, List.setIfInBounds_toArray, List.set_cons_zero, List.set_cons_succ, i64_w, i32_w]
   rfl
  refine take_ (i := 1) (N := some 8) (v := ?_) (a' := ?_) #[true, true, false, true, false, false, false, false, false] rfl rfl (take_ofW HT_.out HW_.out (by kernel_rfl)) (fun _ _ _ h => h) (Or.inl ⟨by rfl, ?_⟩) hHeld ?_ ?_
  rotate_left
  ·
   rintro w' ⟨s0, s1, s2, s3, s4, s5, s6, s7, s8, s9, s10, s11, s12, s13, s14, s15, s16, s17, s18, s19, s20, s21, s22⟩
   go_simp
   with_reducible rfl
  rotate_left
  ·
   simp only [Act.put, List.setIfInBounds_toArray, List.set_cons_zero, List.set_cons_succ, i64_w, i32_w]
   rfl
  refine take_ (i := 4) (N := some 11) (v := ?_) (a' := ?_) #[true, true, false, true, true, false, false, false, false] rfl rfl (take_ofW HT_.out HW_.out (by kernel_rfl)) (fun _ _ _ h => h) (Or.inl ⟨by rfl, ?_⟩) hHeld ?_ ?_
  rotate_left
  ·
   rintro w' ⟨s0, s1, s2, s3, s4, s5, s6, s7, s8, s9, s10, s11, s12, s13, s14, s15, s16, s17, s18, s19, s20, s21, s22⟩
   go_simp
   with_reducible rfl
  rotate_left
  ·
   simp only [Act.put, List.setIfInBounds_toArray, List.set_cons_zero, List.set_cons_succ, i64_w, i32_w]
   rfl
  refine one_ (i := 2) (N := some 9) #[true, true, true, true, true, false, false, false, false] rfl rfl (one_of HT_.out (by kernel_rfl)) (by decide) (fun K hK => ?_)
  refine goes_ Tryd.func57 (by kernel_rfl) rfl #[.int .i64 a0_1] (by rfl) rfl rfl (by (try simp only [List.map_toArray, List.map_cons, List.map_nil]); first | done | rfl | (simp only [List.length_drop, List.length_take]; rfl) | (go_simp; done) | (go_simp; omega)) ?_
  with_reducible refine (tell_num.calls a0_1 t122 _ A3.out (ht := (by first | exact HT.out | exact Go.Proofs.YtcebnaknodghcaaDoor.HItoa.Tab.below HT.out (by repeat (first | (with_reducible first | exact HB.out | apply below_alloc | apply pw_below_drewN | apply below_drew1) | exact HB.out))))).mono ?_
  rintro e w9 ⟨rfl, hb⟩
  refine ⟨_, rfl, ?_⟩
  have n0_ := Aside0.mk (blk_below (g := gb121) (o := .cells #[.int .i64 a0_0, .int .i64 a0_1, .int .i64 a0_2, .int .i64 a0_3, .int .u8 a0_4, .int .u8 a0_5, .int .i64 a0_6, .int .u32 a0_7, .int .u16 a0_8, .int .i64 a0_9, .int .i64 a0_10, .int .i64 a0_11, .int .u64 a0_12, .int .u64 a0_13, .slice A0_14 l0_14.length c0_14, .int .u64 a0_15, .int .i64 a0_16, .int .u8 a0_17, .int .i64 a0_18, .slice A0_19 l0_19.length c0_19, .int .i64 a0_20, .int .i64 a0_21, .slice A0_22 l0_22.length c0_22] 35 (0, 0)) (by (with_reducible repeat (first | refine blk_drewN ?_ _ | refine blk_drew ?_ | refine blk_alloc ?_ _)); exact BK121.out) hb)
  have n1_ := Aside0.mk (below_step (by repeat (first | (with_reducible first | exact HB.out | apply below_alloc | apply pw_below_drewN | apply below_drew1 | refine below_set ?_ GE121.out) | exact HB.out)) hb)
  clear BK121
  clear HB
  have BK121 := n0_
  have HB := n1_
  clear n0_ n1_
  (try clear hb)
  (try clear hb2)
  (try clear hk)
  (try clear hi)
  refine hK.out _ _ ⟨(blk_cell BK121.out 0).trans rfl, (blk_cell BK121.out 1).trans rfl, (blk_cell BK121.out 2).trans rfl, (blk_cell BK121.out 3).trans rfl, (blk_cell BK121.out 4).trans rfl, (blk_cell BK121.out 5).trans rfl, (blk_cell BK121.out 6).trans rfl, (blk_cell BK121.out 7).trans rfl, (blk_cell BK121.out 8).trans rfl, (blk_cell BK121.out 9).trans rfl, (blk_cell BK121.out 10).trans rfl, (blk_cell BK121.out 11).trans rfl, (blk_cell BK121.out 12).trans rfl, (blk_cell BK121.out 13).trans rfl, (blk_cell BK121.out 14).trans rfl, (blk_cell BK121.out 15).trans rfl, (blk_cell BK121.out 16).trans rfl, (blk_cell BK121.out 17).trans rfl, (blk_cell BK121.out 18).trans rfl, (blk_cell BK121.out 19).trans rfl, (blk_cell BK121.out 20).trans rfl, (blk_cell BK121.out 21).trans rfl, (blk_cell BK121.out 22).trans rfl⟩ (fun hHeld => ?_)
  clear hK K
  refine norm_ (a' := ?_) ?_ ?_
  rotate_left
  ·
   show Act.put _ (some 9) _ = _
   simp only [Act.put, List.setIfInBounds_toArray, List.set_cons_zero, List.set_cons_succ, i64_w, i32_w]
   rfl
  refine one_ (i := 5) (N := some 12) #[true, true, true, true, true, true, false, false, false] rfl rfl (one_of HT_.out (by kernel_rfl)) (by decide) (fun K hK => ?_)
  refine goes_ Tryd.func57 (by kernel_rfl) rfl #[.int .i64 a0_21] (by rfl) rfl rfl (by (try simp only [List.map_toArray, List.map_cons, List.map_nil]); first | done | rfl | (simp only [List.length_drop, List.length_take]; rfl) | (go_simp; done) | (go_simp; omega)) ?_
  with_reducible refine (tell_num.calls a0_21 t123 _ A4.out (ht := (by first | exact HT.out | exact Go.Proofs.YtcebnaknodghcaaDoor.HItoa.Tab.below HT.out (by repeat (first | (with_reducible first | exact HB.out | apply below_alloc | apply pw_below_drewN | apply below_drew1) | exact HB.out))))).mono ?_
  rintro e w10 ⟨rfl, hb⟩
  refine ⟨_, rfl, ?_⟩
  have n0_ := Aside0.mk (blk_below (g := gb121) (o := .cells #[.int .i64 a0_0, .int .i64 a0_1, .int .i64 a0_2, .int .i64 a0_3, .int .u8 a0_4, .int .u8 a0_5, .int .i64 a0_6, .int .u32 a0_7, .int .u16 a0_8, .int .i64 a0_9, .int .i64 a0_10, .int .i64 a0_11, .int .u64 a0_12, .int .u64 a0_13, .slice A0_14 l0_14.length c0_14, .int .u64 a0_15, .int .i64 a0_16, .int .u8 a0_17, .int .i64 a0_18, .slice A0_19 l0_19.length c0_19, .int .i64 a0_20, .int .i64 a0_21, .slice A0_22 l0_22.length c0_22] 35 (0, 0)) (by (with_reducible repeat (first | refine blk_drewN ?_ _ | refine blk_drew ?_ | refine blk_alloc ?_ _)); exact BK121.out) hb)
  have n1_ := Aside0.mk (below_step (by repeat (first | (with_reducible first | exact HB.out | apply below_alloc | apply pw_below_drewN | apply below_drew1 | refine below_set ?_ GE121.out) | exact HB.out)) hb)
  clear BK121
  clear HB
  have BK121 := n0_
  have HB := n1_
  clear n0_ n1_
  (try clear hb)
  (try clear hb2)
  (try clear hk)
  (try clear hi)
  refine hK.out _ _ ⟨(blk_cell BK121.out 0).trans rfl, (blk_cell BK121.out 1).trans rfl, (blk_cell BK121.out 2).trans rfl, (blk_cell BK121.out 3).trans rfl, (blk_cell BK121.out 4).trans rfl, (blk_cell BK121.out 5).trans rfl, (blk_cell BK121.out 6).trans rfl, (blk_cell BK121.out 7).trans rfl, (blk_cell BK121.out 8).trans rfl, (blk_cell BK121.out 9).trans rfl, (blk_cell BK121.out 10).trans rfl, (blk_cell BK121.out 11).trans rfl, (blk_cell BK121.out 12).trans rfl, (blk_cell BK121.out 13).trans rfl, (blk_cell BK121.out 14).trans rfl, (blk_cell BK121.out 15).trans rfl, (blk_cell BK121.out 16).trans rfl, (blk_cell BK121.out 17).trans rfl, (blk_cell BK121.out 18).trans rfl, (blk_cell BK121.out 19).trans rfl, (blk_cell BK121.out 20).trans rfl, (blk_cell BK121.out 21).trans rfl, (blk_cell BK121.out 22).trans rfl⟩ (fun hHeld => ?_)
  clear hK K
  refine norm_ (a' := ?_) ?_ ?_
  rotate_left
  ·
   show Act.put _ (some 12) _ = _
   simp only [Act.put, List.setIfInBounds_toArray, List.set_cons_zero, List.set_cons_succ, i64_w, i32_w]
   rfl
  refine one_ (i := 6) (N := some 13) #[true, true, true, true, true, true, true, false, false] rfl rfl (one_of HT_.out (by kernel_rfl)) (by decide) (fun K hK => ?_)
  refine Kd.R_lit_step Kd.string _ 9 ?hg (N := 13) ?hd (xs := ([(⟨#[104, 111, 115, 116]⟩ : ByteArray), t122, (⟨#[109, 111, 118, 101]⟩ : ByteArray), t123] : List ByteArray)) (inner := [.string (⟨#[104, 111, 115, 116]⟩ : ByteArray), .string t122, .string (⟨#[109, 111, 118, 101]⟩ : ByteArray), .string t123]) (ok := fun _ => True) (okp := fun _ => True) ?hr ?hp (fun _ hk => hk) trivial (Below.refl _ _) (Nat.le_refl _) (by simp) ?_; (case hd => rfl); (case hg => rfl); (case hr => first | (go_simp; done) | (go_simp; rfl)); (case hp => exact (Reps.one (show Kd.M Kd.string _ _ _ (⟨#[104, 111, 115, 116]⟩ : ByteArray) [.string (⟨#[104, 111, 115, 116]⟩ : ByteArray)] from rfl) (Reps.one (show Kd.M Kd.string _ _ _ t122 [.string t122] from rfl) (Reps.one (show Kd.M Kd.string _ _ _ (⟨#[109, 111, 118, 101]⟩ : ByteArray) [.string (⟨#[109, 111, 118, 101]⟩ : ByteArray)] from rfl) (Reps.one (show Kd.M Kd.string _ _ _ t123 [.string t123] from rfl) (Reps.none _ _))))))
  intro v125 w11 ho12 hb hg_ hnew_
  clear hg_ hnew_
  (first | rw [← Ny124.out] at ho12 | (simp only [Int.reduceToNat] at ho12; rw [← Ny124.out] at ho12))
  have n0_ := Aside0.mk (Kd.R_lower ho12 (below_size (by repeat (first | (with_reducible first | exact HB.out | apply below_alloc | apply pw_below_drewN | apply below_drew1 | refine below_set ?_ GE121.out) | exact HB.out))))
  have n1_ := Aside0.mk (blk_below (g := gb121) (o := .cells #[.int .i64 a0_0, .int .i64 a0_1, .int .i64 a0_2, .int .i64 a0_3, .int .u8 a0_4, .int .u8 a0_5, .int .i64 a0_6, .int .u32 a0_7, .int .u16 a0_8, .int .i64 a0_9, .int .i64 a0_10, .int .i64 a0_11, .int .u64 a0_12, .int .u64 a0_13, .slice A0_14 l0_14.length c0_14, .int .u64 a0_15, .int .i64 a0_16, .int .u8 a0_17, .int .i64 a0_18, .slice A0_19 l0_19.length c0_19, .int .i64 a0_20, .int .i64 a0_21, .slice A0_22 l0_22.length c0_22] 35 (0, 0)) (by (with_reducible repeat (first | refine blk_drewN ?_ _ | refine blk_drew ?_ | refine blk_alloc ?_ _)); exact BK121.out) hb)
  have n2_ := Aside0.mk (below_step (by repeat (first | (with_reducible first | exact HB.out | apply below_alloc | apply pw_below_drewN | apply below_drew1 | refine below_set ?_ GE121.out) | exact HB.out)) hb)
  clear BK121
  clear HB
  have HO126 := n0_
  have BK121 := n1_
  have HB := n2_
  clear n0_ n1_ n2_
  clear hb ho12
  obtain ⟨Ao13, co13, eo13⟩ := Kd.R_slice HO126.out
  (first | subst eo13 | (injection eo13 with f1_ f2_ f3_; have f4_ := f1_.symm; have f5_ := f3_.symm; clear f1_ f2_ f3_; subst f4_; subst f5_))
  refine hK.out _ _ ⟨(blk_cell BK121.out 0).trans rfl, (blk_cell BK121.out 1).trans rfl, (blk_cell BK121.out 2).trans rfl, (blk_cell BK121.out 3).trans rfl, (blk_cell BK121.out 4).trans rfl, (blk_cell BK121.out 5).trans rfl, (blk_cell BK121.out 6).trans rfl, (blk_cell BK121.out 7).trans rfl, (blk_cell BK121.out 8).trans rfl, (blk_cell BK121.out 9).trans rfl, (blk_cell BK121.out 10).trans rfl, (blk_cell BK121.out 11).trans rfl, (blk_cell BK121.out 12).trans rfl, (blk_cell BK121.out 13).trans rfl, (blk_cell BK121.out 14).trans rfl, (blk_cell BK121.out 15).trans rfl, (blk_cell BK121.out 16).trans rfl, (blk_cell BK121.out 17).trans rfl, (blk_cell BK121.out 18).trans rfl, (blk_cell BK121.out 19).trans rfl, (blk_cell BK121.out 20).trans rfl, (blk_cell BK121.out 21).trans rfl, (blk_cell BK121.out 22).trans rfl⟩ (fun hHeld => ?_)
  clear hK K
  refine norm_ (a' := ?_) ?_ ?_
  rotate_left
  ·
   show Act.put _ (some 13) _ = _
   simp only [Act.put, List.setIfInBounds_toArray, List.set_cons_zero, List.set_cons_succ, i64_w, i32_w]
   rfl
  refine one_ (i := 7) (N := some 14) #[true, true, true, true, true, true, true, true, false] rfl rfl (one_of HT_.out (by kernel_rfl)) (by decide) (fun K hK => ?_)
  refine goes_ Tryd.func56 (by kernel_rfl) rfl #[.slice Ao13 y124.length co13] (by rfl) rfl rfl (by (try simp only [List.map_toArray, List.map_cons, List.map_nil]); first | done | rfl | (simp only [List.length_drop, List.length_take]; rfl) | (go_simp; done) | (go_simp; omega)) ?_
  with_reducible refine (tell_words.calls _ _ y124 t127 _ ?side1 ?side2 A5.out).mono ?_
  (case side1 => repeat (first | exact (Kd.R_reads' HO126.out).2.2 | (with_reducible refine Kd.C_alloc ?_ _) | (with_reducible refine Kd.C_drewN ?_ _) | (with_reducible refine Kd.C_drew ?_)))
  (case side2 => exact (Kd.R_reads' HO126.out).2.1)
  rintro e w14 ⟨rfl, hb⟩
  refine ⟨_, rfl, ?_⟩
  have n0_ := Aside0.mk (Kd.R_below (by (with_reducible repeat (first | apply Kd.R_alloc | apply Kd.R_drewN | apply Kd.R_drew)); exact HO126.out) hb)
  have n1_ := Aside0.mk (blk_below (g := gb121) (o := .cells #[.int .i64 a0_0, .int .i64 a0_1, .int .i64 a0_2, .int .i64 a0_3, .int .u8 a0_4, .int .u8 a0_5, .int .i64 a0_6, .int .u32 a0_7, .int .u16 a0_8, .int .i64 a0_9, .int .i64 a0_10, .int .i64 a0_11, .int .u64 a0_12, .int .u64 a0_13, .slice A0_14 l0_14.length c0_14, .int .u64 a0_15, .int .i64 a0_16, .int .u8 a0_17, .int .i64 a0_18, .slice A0_19 l0_19.length c0_19, .int .i64 a0_20, .int .i64 a0_21, .slice A0_22 l0_22.length c0_22] 35 (0, 0)) (by (with_reducible repeat (first | refine blk_drewN ?_ _ | refine blk_drew ?_ | refine blk_alloc ?_ _)); exact BK121.out) hb)
  have n2_ := Aside0.mk (below_step (by repeat (first | (with_reducible first | exact HB.out | apply below_alloc | apply pw_below_drewN | apply below_drew1 | refine below_set ?_ GE121.out) | exact HB.out)) hb)
  clear HO126
  clear BK121
  clear HB
  have HO126 := n0_
  have BK121 := n1_
  have HB := n2_
  clear n0_ n1_ n2_
  (try clear hb)
  (try clear hb2)
  (try clear hk)
  (try clear hi)
  refine hK.out _ _ ⟨(blk_cell BK121.out 0).trans rfl, (blk_cell BK121.out 1).trans rfl, (blk_cell BK121.out 2).trans rfl, (blk_cell BK121.out 3).trans rfl, (blk_cell BK121.out 4).trans rfl, (blk_cell BK121.out 5).trans rfl, (blk_cell BK121.out 6).trans rfl, (blk_cell BK121.out 7).trans rfl, (blk_cell BK121.out 8).trans rfl, (blk_cell BK121.out 9).trans rfl, (blk_cell BK121.out 10).trans rfl, (blk_cell BK121.out 11).trans rfl, (blk_cell BK121.out 12).trans rfl, (blk_cell BK121.out 13).trans rfl, (blk_cell BK121.out 14).trans rfl, (blk_cell BK121.out 15).trans rfl, (blk_cell BK121.out 16).trans rfl, (blk_cell BK121.out 17).trans rfl, (blk_cell BK121.out 18).trans rfl, (blk_cell BK121.out 19).trans rfl, (blk_cell BK121.out 20).trans rfl, (blk_cell BK121.out 21).trans rfl, (blk_cell BK121.out 22).trans rfl⟩ (fun hHeld => ?_)
  clear hK K
  refine norm_ (a' := ?_) ?_ ?_
  rotate_left
  ·
   show Act.put _ (some 14) _ = _
   simp only [Act.put, List.setIfInBounds_toArray, List.set_cons_zero, List.set_cons_succ, i64_w, i32_w]
   rfl
  refine pure_ (i := 8) (N := some 2) (v := ?_) (a' := ?_) #[true, true, true, true, true, true, true, true, true] rfl rfl (any_of HT_.out (by kernel_rfl)) (fun _ _ _ h => h) (Or.inl ⟨by rfl, ?_⟩) ?_ ?_
  rotate_left
  ·
   intro w'
   go_simp
   with_reducible rfl
  rotate_left
  ·
   simp only [Act.put, List.setIfInBounds_toArray, List.set_cons_zero, List.set_cons_succ, i64_w, i32_w]
   rfl
  refine done_ (done_of HT_.out (by kernel_rfl)) ?_
  try go_wp2
  go_ret
  exact ⟨by first | rfl | (simp [errW_none, errW_some] <;> rfl) | (simp [*, errW_none, errW_some] <;> rfl), by repeat (first | (with_reducible first | exact HB.out | apply below_alloc | apply pw_below_drewN | apply below_drew1 | refine below_set ?_ GE121.out) | exact HB.out)⟩
 ·
  rw [if_neg c2] at H
  have c2b0 : (a0_0 == 3) = false := beq_eq_false_iff_ne.mpr c2
  have c2b1 : (a0_0 != 3) = true := bne_iff_ne.mpr c2
  replace H := Option.bind_eq_some_iff.mp H
  obtain ⟨t128, A150, H⟩ := H
  replace H : ((tell_num.f a0_2).bind fun t129 => ((tell_num.f a0_3).bind fun t130 => ((tell_words.f (([(⟨#[104, 111, 115, 116]⟩ : ByteArray), t128, (⟨#[99, 116, 120]⟩ : ByteArray), t129, (⟨#[116, 105, 99, 107, 101, 116]⟩ : ByteArray), t130] : List ByteArray))).bind fun t134 => (if a0_0 = 0 then ((entry_Name.f (wrap64 (a0_4))).bind fun t135 => ((tell_user.f a0_13).bind fun t136 => ((tell_words.f (([t134, (⟨#[116, 111, 111, 107]⟩ : ByteArray), t135, t136] : List ByteArray))).bind fun t140 => (some t140)))) else (if a0_0 = 1 then ((tell_num.f a0_21).bind fun t141 => ((tell_num.f (l0_22.length : Int)).bind fun t142 => ((tell_words.f (([t134, (⟨#[100, 105, 100]⟩ : ByteArray), t141, (⟨#[98, 121, 116, 101, 115]⟩ : ByteArray), t142] : List ByteArray))).bind fun t146 => (some t146)))) else (if a0_0 = 2 then ((tell_num.f a0_16).bind fun t147 => ((tell_user.f a0_15).bind fun t148 => ((tell_words.f (([t134, (⟨#[100, 111, 110, 101]⟩ : ByteArray), t147, t148] : List ByteArray))).bind fun t152 => (if (Go.bits .and .u8 a0_17 1) = 0 then (tell_Mark.j0 k t152 a0_0 a0_1 a0_2 a0_3 a0_4 a0_5 a0_6 a0_7 a0_8 a0_9 a0_10 a0_11 a0_12 a0_13 l0_14 a0_15 a0_16 a0_17 a0_18 l0_19 a0_20 a0_21 l0_22) else ((tell_words.f (([t152, (⟨#[109, 111, 114, 101]⟩ : ByteArray)] : List ByteArray))).bind fun t156 => (tell_Mark.j0 k t156 a0_0 a0_1 a0_2 a0_3 a0_4 a0_5 a0_6 a0_7 a0_8 a0_9 a0_10 a0_11 a0_12 a0_13 l0_14 a0_15 a0_16 a0_17 a0_18 l0_19 a0_20 a0_21 l0_22)))))) else (some (⟨#[63]⟩ : ByteArray)))))))) = some r := H
  have A15 := Aside0.mk A150
  clear A150
  replace H := Option.bind_eq_some_iff.mp H
  obtain ⟨t129, A160, H⟩ := H
  replace H : ((tell_num.f a0_3).bind fun t130 => ((tell_words.f (([(⟨#[104, 111, 115, 116]⟩ : ByteArray), t128, (⟨#[99, 116, 120]⟩ : ByteArray), t129, (⟨#[116, 105, 99, 107, 101, 116]⟩ : ByteArray), t130] : List ByteArray))).bind fun t134 => (if a0_0 = 0 then ((entry_Name.f (wrap64 (a0_4))).bind fun t135 => ((tell_user.f a0_13).bind fun t136 => ((tell_words.f (([t134, (⟨#[116, 111, 111, 107]⟩ : ByteArray), t135, t136] : List ByteArray))).bind fun t140 => (some t140)))) else (if a0_0 = 1 then ((tell_num.f a0_21).bind fun t141 => ((tell_num.f (l0_22.length : Int)).bind fun t142 => ((tell_words.f (([t134, (⟨#[100, 105, 100]⟩ : ByteArray), t141, (⟨#[98, 121, 116, 101, 115]⟩ : ByteArray), t142] : List ByteArray))).bind fun t146 => (some t146)))) else (if a0_0 = 2 then ((tell_num.f a0_16).bind fun t147 => ((tell_user.f a0_15).bind fun t148 => ((tell_words.f (([t134, (⟨#[100, 111, 110, 101]⟩ : ByteArray), t147, t148] : List ByteArray))).bind fun t152 => (if (Go.bits .and .u8 a0_17 1) = 0 then (tell_Mark.j0 k t152 a0_0 a0_1 a0_2 a0_3 a0_4 a0_5 a0_6 a0_7 a0_8 a0_9 a0_10 a0_11 a0_12 a0_13 l0_14 a0_15 a0_16 a0_17 a0_18 l0_19 a0_20 a0_21 l0_22) else ((tell_words.f (([t152, (⟨#[109, 111, 114, 101]⟩ : ByteArray)] : List ByteArray))).bind fun t156 => (tell_Mark.j0 k t156 a0_0 a0_1 a0_2 a0_3 a0_4 a0_5 a0_6 a0_7 a0_8 a0_9 a0_10 a0_11 a0_12 a0_13 l0_14 a0_15 a0_16 a0_17 a0_18 l0_19 a0_20 a0_21 l0_22)))))) else (some (⟨#[63]⟩ : ByteArray))))))) = some r := H
  have A16 := Aside0.mk A160
  clear A160
  replace H := Option.bind_eq_some_iff.mp H
  obtain ⟨t130, A170, H⟩ := H
  replace H : ((tell_words.f (([(⟨#[104, 111, 115, 116]⟩ : ByteArray), t128, (⟨#[99, 116, 120]⟩ : ByteArray), t129, (⟨#[116, 105, 99, 107, 101, 116]⟩ : ByteArray), t130] : List ByteArray))).bind fun t134 => (if a0_0 = 0 then ((entry_Name.f (wrap64 (a0_4))).bind fun t135 => ((tell_user.f a0_13).bind fun t136 => ((tell_words.f (([t134, (⟨#[116, 111, 111, 107]⟩ : ByteArray), t135, t136] : List ByteArray))).bind fun t140 => (some t140)))) else (if a0_0 = 1 then ((tell_num.f a0_21).bind fun t141 => ((tell_num.f (l0_22.length : Int)).bind fun t142 => ((tell_words.f (([t134, (⟨#[100, 105, 100]⟩ : ByteArray), t141, (⟨#[98, 121, 116, 101, 115]⟩ : ByteArray), t142] : List ByteArray))).bind fun t146 => (some t146)))) else (if a0_0 = 2 then ((tell_num.f a0_16).bind fun t147 => ((tell_user.f a0_15).bind fun t148 => ((tell_words.f (([t134, (⟨#[100, 111, 110, 101]⟩ : ByteArray), t147, t148] : List ByteArray))).bind fun t152 => (if (Go.bits .and .u8 a0_17 1) = 0 then (tell_Mark.j0 k t152 a0_0 a0_1 a0_2 a0_3 a0_4 a0_5 a0_6 a0_7 a0_8 a0_9 a0_10 a0_11 a0_12 a0_13 l0_14 a0_15 a0_16 a0_17 a0_18 l0_19 a0_20 a0_21 l0_22) else ((tell_words.f (([t152, (⟨#[109, 111, 114, 101]⟩ : ByteArray)] : List ByteArray))).bind fun t156 => (tell_Mark.j0 k t156 a0_0 a0_1 a0_2 a0_3 a0_4 a0_5 a0_6 a0_7 a0_8 a0_9 a0_10 a0_11 a0_12 a0_13 l0_14 a0_15 a0_16 a0_17 a0_18 l0_19 a0_20 a0_21 l0_22)))))) else (some (⟨#[63]⟩ : ByteArray)))))) = some r := H
  have A17 := Aside0.mk A170
  clear A170
  obtain ⟨y131, hy131⟩ : ∃ y_ : List ByteArray, y_ = (([(⟨#[104, 111, 115, 116]⟩ : ByteArray), t128, (⟨#[99, 116, 120]⟩ : ByteArray), t129, (⟨#[116, 105, 99, 107, 101, 116]⟩ : ByteArray), t130] : List ByteArray)) := ⟨_, rfl⟩
  replace H : ((tell_words.f y131).bind fun t134 => (if a0_0 = 0 then ((entry_Name.f (wrap64 (a0_4))).bind fun t135 => ((tell_user.f a0_13).bind fun t136 => ((tell_words.f (([t134, (⟨#[116, 111, 111, 107]⟩ : ByteArray), t135, t136] : List ByteArray))).bind fun t140 => (some t140)))) else (if a0_0 = 1 then ((tell_num.f a0_21).bind fun t141 => ((tell_num.f (l0_22.length : Int)).bind fun t142 => ((tell_words.f (([t134, (⟨#[100, 105, 100]⟩ : ByteArray), t141, (⟨#[98, 121, 116, 101, 115]⟩ : ByteArray), t142] : List ByteArray))).bind fun t146 => (some t146)))) else (if a0_0 = 2 then ((tell_num.f a0_16).bind fun t147 => ((tell_user.f a0_15).bind fun t148 => ((tell_words.f (([t134, (⟨#[100, 111, 110, 101]⟩ : ByteArray), t147, t148] : List ByteArray))).bind fun t152 => (if (Go.bits .and .u8 a0_17 1) = 0 then (tell_Mark.j0 k t152 a0_0 a0_1 a0_2 a0_3 a0_4 a0_5 a0_6 a0_7 a0_8 a0_9 a0_10 a0_11 a0_12 a0_13 l0_14 a0_15 a0_16 a0_17 a0_18 l0_19 a0_20 a0_21 l0_22) else ((tell_words.f (([t152, (⟨#[109, 111, 114, 101]⟩ : ByteArray)] : List ByteArray))).bind fun t156 => (tell_Mark.j0 k t156 a0_0 a0_1 a0_2 a0_3 a0_4 a0_5 a0_6 a0_7 a0_8 a0_9 a0_10 a0_11 a0_12 a0_13 l0_14 a0_15 a0_16 a0_17 a0_18 l0_19 a0_20 a0_21 l0_22)))))) else (some (⟨#[63]⟩ : ByteArray)))))) = some r := by first | (rw [hy131]; with_reducible exact H) | (have H2_ := (Option.bind_some _ _).symm.trans H; rw [hy131]; with_reducible exact H2_) | (have H2_ := (Option.bind_some _ _).symm.trans H; with_reducible exact H2_) | with_reducible exact H | (rw [hy131]; exact H) | exact H
  have Ny131 := Aside0.mk hy131
  clear hy131
  replace H := Option.bind_eq_some_iff.mp H
  obtain ⟨t134, A180, H⟩ := H
  replace H : (if a0_0 = 0 then ((entry_Name.f (wrap64 (a0_4))).bind fun t135 => ((tell_user.f a0_13).bind fun t136 => ((tell_words.f (([t134, (⟨#[116, 111, 111, 107]⟩ : ByteArray), t135, t136] : List ByteArray))).bind fun t140 => (some t140)))) else (if a0_0 = 1 then ((tell_num.f a0_21).bind fun t141 => ((tell_num.f (l0_22.length : Int)).bind fun t142 => ((tell_words.f (([t134, (⟨#[100, 105, 100]⟩ : ByteArray), t141, (⟨#[98, 121, 116, 101, 115]⟩ : ByteArray), t142] : List ByteArray))).bind fun t146 => (some t146)))) else (if a0_0 = 2 then ((tell_num.f a0_16).bind fun t147 => ((tell_user.f a0_15).bind fun t148 => ((tell_words.f (([t134, (⟨#[100, 111, 110, 101]⟩ : ByteArray), t147, t148] : List ByteArray))).bind fun t152 => (if (Go.bits .and .u8 a0_17 1) = 0 then (tell_Mark.j0 k t152 a0_0 a0_1 a0_2 a0_3 a0_4 a0_5 a0_6 a0_7 a0_8 a0_9 a0_10 a0_11 a0_12 a0_13 l0_14 a0_15 a0_16 a0_17 a0_18 l0_19 a0_20 a0_21 l0_22) else ((tell_words.f (([t152, (⟨#[109, 111, 114, 101]⟩ : ByteArray)] : List ByteArray))).bind fun t156 => (tell_Mark.j0 k t156 a0_0 a0_1 a0_2 a0_3 a0_4 a0_5 a0_6 a0_7 a0_8 a0_9 a0_10 a0_11 a0_12 a0_13 l0_14 a0_15 a0_16 a0_17 a0_18 l0_19 a0_20 a0_21 l0_22)))))) else (some (⟨#[63]⟩ : ByteArray))))) = some r := H
  have A18 := Aside0.mk A180
  clear A180
  by_cases c19 : a0_0 = 0
  ·
   rw [if_pos c19] at H
   have c19b0 : (a0_0 == 0) = true := beq_iff_eq.mpr c19
   have c19b1 : (a0_0 != 0) = false := bne_eq_false_iff_eq.mpr c19
   clear c19
   replace H := Option.bind_eq_some_iff.mp H
   obtain ⟨t135, A200, H⟩ := H
   replace H : ((tell_user.f a0_13).bind fun t136 => ((tell_words.f (([t134, (⟨#[116, 111, 111, 107]⟩ : ByteArray), t135, t136] : List ByteArray))).bind fun t140 => (some t140))) = some r := H
   have A20 := Aside0.mk A200
   clear A200
   replace H := Option.bind_eq_some_iff.mp H
   obtain ⟨t136, A210, H⟩ := H
   replace H : ((tell_words.f (([t134, (⟨#[116, 111, 111, 107]⟩ : ByteArray), t135, t136] : List ByteArray))).bind fun t140 => (some t140)) = some r := H
   have A21 := Aside0.mk A210
   clear A210
   obtain ⟨y137, hy137⟩ : ∃ y_ : List ByteArray, y_ = (([t134, (⟨#[116, 111, 111, 107]⟩ : ByteArray), t135, t136] : List ByteArray)) := ⟨_, rfl⟩
   replace H : ((tell_words.f y137).bind fun t140 => (some t140)) = some r := by first | (rw [hy137]; with_reducible exact H) | (have H2_ := (Option.bind_some _ _).symm.trans H; rw [hy137]; with_reducible exact H2_) | (have H2_ := (Option.bind_some _ _).symm.trans H; with_reducible exact H2_) | with_reducible exact H | (rw [hy137]; exact H) | exact H
   have Ny137 := Aside0.mk hy137
   clear hy137
   replace H := Option.bind_eq_some_iff.mp H
   obtain ⟨t140, A220, H⟩ := H
   replace H : (some t140) = some r := H
   have A22 := Aside0.mk A220
   clear A220
   obtain rfl := Option.some.inj H
   go_enter Tryd.func15, Tryd.ntmps15
   try go_wp2_with (first | ((with_reducible refine gate_dst (N := 1) rfl ?_); refine box_event ?hg (N := 1) ?hd (cs := #[.int .i64 a0_0, .int .i64 a0_1, .int .i64 a0_2, .int .i64 a0_3, .int .u8 a0_4, .int .u8 a0_5, .int .i64 a0_6, .int .u32 a0_7, .int .u16 a0_8, .int .i64 a0_9, .int .i64 a0_10, .int .i64 a0_11, .int .u64 a0_12, .int .u64 a0_13, .slice A0_14 l0_14.length c0_14, .int .u64 a0_15, .int .i64 a0_16, .int .u8 a0_17, .int .i64 a0_18, .slice A0_19 l0_19.length c0_19, .int .i64 a0_20, .int .i64 a0_21, .slice A0_22 l0_22.length c0_22]) (t := 35) ?hr ?_; (case hd => rfl); (case hg => rfl); (case hr => first | (go_simp; done) | (go_simp; rfl)); intro gb121 hg w23 hbox hb; have n0_ := Aside0.mk (below_step (by repeat (first | (with_reducible first | exact HB.out | apply below_alloc | apply pw_below_drewN | apply below_drew1) | exact HB.out)) hb); have n1_ := Aside0.mk (hbox); have n2_ := Aside0.mk ((by rw [hg]; exact (below_size (by repeat (first | (with_reducible first | exact HB.out | apply below_alloc | apply pw_below_drewN | apply below_drew1) | exact HB.out))) : w.heap.size ≤ gb121)); have n3_ := Aside0.mk ((by rw [hg]; exact (below_size (by repeat (first | (with_reducible first | exact HB.out | apply below_alloc | apply pw_below_drewN | apply below_drew1) | exact HB.out))) : w.heap.size ≤ gb121)); clear HB; have HB := n0_; have BK121 := n1_; have GW121 := n2_; have GE121 := n3_; clear n0_ n1_ n2_ n3_; clear hb hbox hg; have hcz24_0 : w23.cell? ⟨gb121, 0, none⟩ = some (.int .i64 a0_0) := (blk_cell BK121.out 0).trans rfl; have hcz24_1 : w23.cell? ⟨gb121, 1, none⟩ = some (.int .i64 a0_1) := (blk_cell BK121.out 1).trans rfl; have hcz24_2 : w23.cell? ⟨gb121, 2, none⟩ = some (.int .i64 a0_2) := (blk_cell BK121.out 2).trans rfl; have hcz24_3 : w23.cell? ⟨gb121, 3, none⟩ = some (.int .i64 a0_3) := (blk_cell BK121.out 3).trans rfl; have hcz24_4 : w23.cell? ⟨gb121, 4, none⟩ = some (.int .u8 a0_4) := (blk_cell BK121.out 4).trans rfl; have hcz24_5 : w23.cell? ⟨gb121, 5, none⟩ = some (.int .u8 a0_5) := (blk_cell BK121.out 5).trans rfl; have hcz24_6 : w23.cell? ⟨gb121, 6, none⟩ = some (.int .i64 a0_6) := (blk_cell BK121.out 6).trans rfl; have hcz24_7 : w23.cell? ⟨gb121, 7, none⟩ = some (.int .u32 a0_7) := (blk_cell BK121.out 7).trans rfl; have hcz24_8 : w23.cell? ⟨gb121, 8, none⟩ = some (.int .u16 a0_8) := (blk_cell BK121.out 8).trans rfl; have hcz24_9 : w23.cell? ⟨gb121, 9, none⟩ = some (.int .i64 a0_9) := (blk_cell BK121.out 9).trans rfl; have hcz24_10 : w23.cell? ⟨gb121, 10, none⟩ = some (.int .i64 a0_10) := (blk_cell BK121.out 10).trans rfl; have hcz24_11 : w23.cell? ⟨gb121, 11, none⟩ = some (.int .i64 a0_11) := (blk_cell BK121.out 11).trans rfl; have hcz24_12 : w23.cell? ⟨gb121, 12, none⟩ = some (.int .u64 a0_12) := (blk_cell BK121.out 12).trans rfl; have hcz24_13 : w23.cell? ⟨gb121, 13, none⟩ = some (.int .u64 a0_13) := (blk_cell BK121.out 13).trans rfl; have hcz24_14 : w23.cell? ⟨gb121, 14, none⟩ = some (.slice A0_14 l0_14.length c0_14) := (blk_cell BK121.out 14).trans rfl; have hcz24_15 : w23.cell? ⟨gb121, 15, none⟩ = some (.int .u64 a0_15) := (blk_cell BK121.out 15).trans rfl; have hcz24_16 : w23.cell? ⟨gb121, 16, none⟩ = some (.int .i64 a0_16) := (blk_cell BK121.out 16).trans rfl; have hcz24_17 : w23.cell? ⟨gb121, 17, none⟩ = some (.int .u8 a0_17) := (blk_cell BK121.out 17).trans rfl; have hcz24_18 : w23.cell? ⟨gb121, 18, none⟩ = some (.int .i64 a0_18) := (blk_cell BK121.out 18).trans rfl; have hcz24_19 : w23.cell? ⟨gb121, 19, none⟩ = some (.slice A0_19 l0_19.length c0_19) := (blk_cell BK121.out 19).trans rfl; have hcz24_20 : w23.cell? ⟨gb121, 20, none⟩ = some (.int .i64 a0_20) := (blk_cell BK121.out 20).trans rfl; have hcz24_21 : w23.cell? ⟨gb121, 21, none⟩ = some (.int .i64 a0_21) := (blk_cell BK121.out 21).trans rfl; have hcz24_22 : w23.cell? ⟨gb121, 22, none⟩ = some (.slice A0_22 l0_22.length c0_22) := (blk_cell BK121.out 22).trans rfl; have hfz24_0 := blk_frozen BK121.out 0; have hfz24_1 := blk_frozen BK121.out 1; have hfz24_2 := blk_frozen BK121.out 2; have hfz24_3 := blk_frozen BK121.out 3; have hfz24_4 := blk_frozen BK121.out 4; have hfz24_5 := blk_frozen BK121.out 5; have hfz24_6 := blk_frozen BK121.out 6; have hfz24_7 := blk_frozen BK121.out 7; have hfz24_8 := blk_frozen BK121.out 8; have hfz24_9 := blk_frozen BK121.out 9; have hfz24_10 := blk_frozen BK121.out 10; have hfz24_11 := blk_frozen BK121.out 11; have hfz24_12 := blk_frozen BK121.out 12; have hfz24_13 := blk_frozen BK121.out 13; have hfz24_14 := blk_frozen BK121.out 14; have hfz24_15 := blk_frozen BK121.out 15; have hfz24_16 := blk_frozen BK121.out 16; have hfz24_17 := blk_frozen BK121.out 17; have hfz24_18 := blk_frozen BK121.out 18; have hfz24_19 := blk_frozen BK121.out 19; have hfz24_20 := blk_frozen BK121.out 20; have hfz24_21 := blk_frozen BK121.out 21; have hfz24_22 := blk_frozen BK121.out 22))
   have n0_ := Aside0.mk (blk_drew BK121.out)
   have n1_ := Aside0.mk (below_drew1 HB.out)
   clear BK121
   clear HB
   have BK121 := n0_
   have HB := n1_
   clear n0_ n1_
   refine start_ (n := 12) (S := fun w' => w'.cell? ⟨gb121, 0, none⟩ = some (.int .i64 a0_0) ∧ w'.cell? ⟨gb121, 1, none⟩ = some (.int .i64 a0_1) ∧ w'.cell? ⟨gb121, 2, none⟩ = some (.int .i64 a0_2) ∧ w'.cell? ⟨gb121, 3, none⟩ = some (.int .i64 a0_3) ∧ w'.cell? ⟨gb121, 4, none⟩ = some (.int .u8 a0_4) ∧ w'.cell? ⟨gb121, 5, none⟩ = some (.int .u8 a0_5) ∧ w'.cell? ⟨gb121, 6, none⟩ = some (.int .i64 a0_6) ∧ w'.cell? ⟨gb121, 7, none⟩ = some (.int .u32 a0_7) ∧ w'.cell? ⟨gb121, 8, none⟩ = some (.int .u16 a0_8) ∧ w'.cell? ⟨gb121, 9, none⟩ = some (.int .i64 a0_9) ∧ w'.cell? ⟨gb121, 10, none⟩ = some (.int .i64 a0_10) ∧ w'.cell? ⟨gb121, 11, none⟩ = some (.int .i64 a0_11) ∧ w'.cell? ⟨gb121, 12, none⟩ = some (.int .u64 a0_12) ∧ w'.cell? ⟨gb121, 13, none⟩ = some (.int .u64 a0_13) ∧ w'.cell? ⟨gb121, 14, none⟩ = some (.slice A0_14 l0_14.length c0_14) ∧ w'.cell? ⟨gb121, 15, none⟩ = some (.int .u64 a0_15) ∧ w'.cell? ⟨gb121, 16, none⟩ = some (.int .i64 a0_16) ∧ w'.cell? ⟨gb121, 17, none⟩ = some (.int .u8 a0_17) ∧ w'.cell? ⟨gb121, 18, none⟩ = some (.int .i64 a0_18) ∧ w'.cell? ⟨gb121, 19, none⟩ = some (.slice A0_19 l0_19.length c0_19) ∧ w'.cell? ⟨gb121, 20, none⟩ = some (.int .i64 a0_20) ∧ w'.cell? ⟨gb121, 21, none⟩ = some (.int .i64 a0_21) ∧ w'.cell? ⟨gb121, 22, none⟩ = some (.slice A0_22 l0_22.length c0_22)) (ds := []) (bb 12 0) (by kernel_rfl) rfl rfl ⟨(blk_cell BK121.out 0).trans rfl, (blk_cell BK121.out 1).trans rfl, (blk_cell BK121.out 2).trans rfl, (blk_cell BK121.out 3).trans rfl, (blk_cell BK121.out 4).trans rfl, (blk_cell BK121.out 5).trans rfl, (blk_cell BK121.out 6).trans rfl, (blk_cell BK121.out 7).trans rfl, (blk_cell BK121.out 8).trans rfl, (blk_cell BK121.out 9).trans rfl, (blk_cell BK121.out 10).trans rfl, (blk_cell BK121.out 11).trans rfl, (blk_cell BK121.out 12).trans rfl, (blk_cell BK121.out 13).trans rfl, (blk_cell BK121.out 14).trans rfl, (blk_cell BK121.out 15).trans rfl, (blk_cell BK121.out 16).trans rfl, (blk_cell BK121.out 17).trans rfl, (blk_cell BK121.out 18).trans rfl, (blk_cell BK121.out 19).trans rfl, (blk_cell BK121.out 20).trans rfl, (blk_cell BK121.out 21).trans rfl, (blk_cell BK121.out 22).trans rfl⟩ (fun hHeld => ?_); refine with_tabW tell_Mark.tab3 tell_Mark.bits3 (fun HT_ HW_ => ?_)
   generalize w23.drew = w25 at BK121 HB hHeld ⊢
   refine pure_ (i := 0) (N := some 15) (v := ?_) (a' := ?_) (bb 12 1) rfl rfl (any_of HT_.out (by kernel_rfl)) (fun _ _ _ h => h) (Or.inl ⟨by rfl, ?_⟩) ?_ ?_
   rotate_left
   ·
    intro w'
    go_simp
    with_reducible rfl
   rotate_left
   ·
    simp only [Act.put, List.setIfInBounds_toArray, List.set_cons_zero, List.set_cons_succ, i64_w, i32_w]
    rfl
   refine pure_ (i := 3) (N := some 18) (v := ?_) (a' := ?_) (bb 12 9) rfl rfl (any_of HT_.out (by kernel_rfl)) (fun _ _ _ h => h) (Or.inl ⟨by rfl, ?_⟩) ?_ ?_
   rotate_left
   ·
    intro w'
    go_simp
    with_reducible rfl
   rotate_left
   ·
    simp only [Act.put, List.setIfInBounds_toArray, List.set_cons_zero, List.set_cons_succ, i64_w, i32_w]
    rfl
   refine pure_ (i := 6) (N := some 21) (v := ?_) (a' := ?_) (bb 12 73) rfl rfl (any_of HT_.out (by kernel_rfl)) (fun _ _ _ h => h) (Or.inl ⟨by rfl, ?_⟩) ?_ ?_
   rotate_left
   ·
    intro w'
    go_simp
    with_reducible rfl
   rotate_left
   ·
    simp only [Act.put, List.setIfInBounds_toArray, List.set_cons_zero, List.set_cons_succ, i64_w, i32_w]
    rfl
   refine take_ (i := 1) (N := some 16) (v := ?_) (a' := ?_) (bb 12 75) rfl rfl (take_ofW HT_.out HW_.out (by kernel_rfl)) (fun _ _ _ h => h) (Or.inl ⟨by rfl, ?_⟩) hHeld ?_ ?_
   rotate_left
   ·
    rintro w' ⟨s0, s1, s2, s3, s4, s5, s6, s7, s8, s9, s10, s11, s12, s13, s14, s15, s16, s17, s18, s19, s20, s21, s22⟩
    go_simp
    with_reducible rfl
   rotate_left
   ·
    simp only [Act.put, List.setIfInBounds_toArray, List.set_cons_zero, List.set_cons_succ, i64_w, i32_w]
    rfl
   refine take_ (i := 4) (N := some 19) (v := ?_) (a' := ?_) (bb 12 91) rfl rfl (take_ofW HT_.out HW_.out (by kernel_rfl)) (fun _ _ _ h => h) (Or.inl ⟨by rfl, ?_⟩) hHeld ?_ ?_
   rotate_left
   ·
    rintro w' ⟨s0, s1, s2, s3, s4, s5, s6, s7, s8, s9, s10, s11, s12, s13, s14, s15, s16, s17, s18, s19, s20, s21, s22⟩
    go_simp
    with_reducible rfl
   rotate_left
   ·
    simp only [Act.put, List.setIfInBounds_toArray, List.set_cons_zero, List.set_cons_succ, i64_w, i32_w]
    rfl
   refine take_ (i := 7) (N := some 22) (v := ?_) (a' := ?_) (bb 12 219) rfl rfl (take_ofW HT_.out HW_.out (by kernel_rfl)) (fun _ _ _ h => h) (Or.inl ⟨by rfl, ?_⟩) hHeld ?_ ?_
   rotate_left
   ·
    rintro w' ⟨s0, s1, s2, s3, s4, s5, s6, s7, s8, s9, s10, s11, s12, s13, s14, s15, s16, s17, s18, s19, s20, s21, s22⟩
    go_simp
    with_reducible rfl
   rotate_left
   ·
    simp only [Act.put, List.setIfInBounds_toArray, List.set_cons_zero, List.set_cons_succ, i64_w, i32_w]
    rfl
   refine one_ (i := 2) (N := some 17) (bb 12 223) rfl rfl (one_of HT_.out (by kernel_rfl)) (by decide) (fun K hK => ?_)
   refine goes_ Tryd.func57 (by kernel_rfl) rfl #[.int .i64 a0_1] (by rfl) rfl rfl (by (try simp only [List.map_toArray, List.map_cons, List.map_nil]); first | done | rfl | (simp only [List.length_drop, List.length_take]; rfl) | (go_simp; done) | (go_simp; omega)) ?_
   with_reducible refine (tell_num.calls a0_1 t128 _ A15.out (ht := (by first | exact HT.out | exact Go.Proofs.YtcebnaknodghcaaDoor.HItoa.Tab.below HT.out (by repeat (first | (with_reducible first | exact HB.out | apply below_alloc | apply pw_below_drewN | apply below_drew1) | exact HB.out))))).mono ?_
   rintro e w26 ⟨rfl, hb⟩
   refine ⟨_, rfl, ?_⟩
   have n0_ := Aside0.mk (blk_below (g := gb121) (o := .cells #[.int .i64 a0_0, .int .i64 a0_1, .int .i64 a0_2, .int .i64 a0_3, .int .u8 a0_4, .int .u8 a0_5, .int .i64 a0_6, .int .u32 a0_7, .int .u16 a0_8, .int .i64 a0_9, .int .i64 a0_10, .int .i64 a0_11, .int .u64 a0_12, .int .u64 a0_13, .slice A0_14 l0_14.length c0_14, .int .u64 a0_15, .int .i64 a0_16, .int .u8 a0_17, .int .i64 a0_18, .slice A0_19 l0_19.length c0_19, .int .i64 a0_20, .int .i64 a0_21, .slice A0_22 l0_22.length c0_22] 35 (0, 0)) (by (with_reducible repeat (first | refine blk_drewN ?_ _ | refine blk_drew ?_ | refine blk_alloc ?_ _)); exact BK121.out) hb)
   have n1_ := Aside0.mk (below_step (by repeat (first | (with_reducible first | exact HB.out | apply below_alloc | apply pw_below_drewN | apply below_drew1 | refine below_set ?_ GE121.out) | exact HB.out)) hb)
   clear BK121
   clear HB
   have BK121 := n0_
   have HB := n1_
   clear n0_ n1_
   (try clear hb)
   (try clear hb2)
   (try clear hk)
   (try clear hi)
   refine hK.out _ _ ⟨(blk_cell BK121.out 0).trans rfl, (blk_cell BK121.out 1).trans rfl, (blk_cell BK121.out 2).trans rfl, (blk_cell BK121.out 3).trans rfl, (blk_cell BK121.out 4).trans rfl, (blk_cell BK121.out 5).trans rfl, (blk_cell BK121.out 6).trans rfl, (blk_cell BK121.out 7).trans rfl, (blk_cell BK121.out 8).trans rfl, (blk_cell BK121.out 9).trans rfl, (blk_cell BK121.out 10).trans rfl, (blk_cell BK121.out 11).trans rfl, (blk_cell BK121.out 12).trans rfl, (blk_cell BK121.out 13).trans rfl, (blk_cell BK121.out 14).trans rfl, (blk_cell BK121.out 15).trans rfl, (blk_cell BK121.out 16).trans rfl, (blk_cell BK121.out 17).trans rfl, (blk_cell BK121.out 18).trans rfl, (blk_cell BK121.out 19).trans rfl, (blk_cell BK121.out 20).trans rfl, (blk_cell BK121.out 21).trans rfl, (blk_cell BK121.out 22).trans rfl⟩ (fun hHeld => ?_)
   clear hK K
   refine norm_ (a' := ?_) ?_ ?_
   rotate_left
   ·
    show Act.put _ (some 17) _ = _
    simp only [Act.put, List.setIfInBounds_toArray, List.set_cons_zero, List.set_cons_succ, i64_w, i32_w]
    rfl
   refine one_ (i := 5) (N := some 20) (bb 12 255) rfl rfl (one_of HT_.out (by kernel_rfl)) (by decide) (fun K hK => ?_)
   refine goes_ Tryd.func57 (by kernel_rfl) rfl #[.int .i64 a0_2] (by rfl) rfl rfl (by (try simp only [List.map_toArray, List.map_cons, List.map_nil]); first | done | rfl | (simp only [List.length_drop, List.length_take]; rfl) | (go_simp; done) | (go_simp; omega)) ?_
   with_reducible refine (tell_num.calls a0_2 t129 _ A16.out (ht := (by first | exact HT.out | exact Go.Proofs.YtcebnaknodghcaaDoor.HItoa.Tab.below HT.out (by repeat (first | (with_reducible first | exact HB.out | apply below_alloc | apply pw_below_drewN | apply below_drew1) | exact HB.out))))).mono ?_
   rintro e w27 ⟨rfl, hb⟩
   refine ⟨_, rfl, ?_⟩
   have n0_ := Aside0.mk (blk_below (g := gb121) (o := .cells #[.int .i64 a0_0, .int .i64 a0_1, .int .i64 a0_2, .int .i64 a0_3, .int .u8 a0_4, .int .u8 a0_5, .int .i64 a0_6, .int .u32 a0_7, .int .u16 a0_8, .int .i64 a0_9, .int .i64 a0_10, .int .i64 a0_11, .int .u64 a0_12, .int .u64 a0_13, .slice A0_14 l0_14.length c0_14, .int .u64 a0_15, .int .i64 a0_16, .int .u8 a0_17, .int .i64 a0_18, .slice A0_19 l0_19.length c0_19, .int .i64 a0_20, .int .i64 a0_21, .slice A0_22 l0_22.length c0_22] 35 (0, 0)) (by (with_reducible repeat (first | refine blk_drewN ?_ _ | refine blk_drew ?_ | refine blk_alloc ?_ _)); exact BK121.out) hb)
   have n1_ := Aside0.mk (below_step (by repeat (first | (with_reducible first | exact HB.out | apply below_alloc | apply pw_below_drewN | apply below_drew1 | refine below_set ?_ GE121.out) | exact HB.out)) hb)
   clear BK121
   clear HB
   have BK121 := n0_
   have HB := n1_
   clear n0_ n1_
   (try clear hb)
   (try clear hb2)
   (try clear hk)
   (try clear hi)
   refine hK.out _ _ ⟨(blk_cell BK121.out 0).trans rfl, (blk_cell BK121.out 1).trans rfl, (blk_cell BK121.out 2).trans rfl, (blk_cell BK121.out 3).trans rfl, (blk_cell BK121.out 4).trans rfl, (blk_cell BK121.out 5).trans rfl, (blk_cell BK121.out 6).trans rfl, (blk_cell BK121.out 7).trans rfl, (blk_cell BK121.out 8).trans rfl, (blk_cell BK121.out 9).trans rfl, (blk_cell BK121.out 10).trans rfl, (blk_cell BK121.out 11).trans rfl, (blk_cell BK121.out 12).trans rfl, (blk_cell BK121.out 13).trans rfl, (blk_cell BK121.out 14).trans rfl, (blk_cell BK121.out 15).trans rfl, (blk_cell BK121.out 16).trans rfl, (blk_cell BK121.out 17).trans rfl, (blk_cell BK121.out 18).trans rfl, (blk_cell BK121.out 19).trans rfl, (blk_cell BK121.out 20).trans rfl, (blk_cell BK121.out 21).trans rfl, (blk_cell BK121.out 22).trans rfl⟩ (fun hHeld => ?_)
   clear hK K
   refine norm_ (a' := ?_) ?_ ?_
   rotate_left
   ·
    show Act.put _ (some 20) _ = _
    simp only [Act.put, List.setIfInBounds_toArray, List.set_cons_zero, List.set_cons_succ, i64_w, i32_w]
    rfl
   refine one_ (i := 8) (N := some 23) (bb 12 511) rfl rfl (one_of HT_.out (by kernel_rfl)) (by decide) (fun K hK => ?_)
   refine goes_ Tryd.func57 (by kernel_rfl) rfl #[.int .i64 a0_3] (by rfl) rfl rfl (by (try simp only [List.map_toArray, List.map_cons, List.map_nil]); first | done | rfl | (simp only [List.length_drop, List.length_take]; rfl) | (go_simp; done) | (go_simp; omega)) ?_
   with_reducible refine (tell_num.calls a0_3 t130 _ A17.out (ht := (by first | exact HT.out | exact Go.Proofs.YtcebnaknodghcaaDoor.HItoa.Tab.below HT.out (by repeat (first | (with_reducible first | exact HB.out | apply below_alloc | apply pw_below_drewN | apply below_drew1) | exact HB.out))))).mono ?_
   rintro e w28 ⟨rfl, hb⟩
   refine ⟨_, rfl, ?_⟩
   have n0_ := Aside0.mk (blk_below (g := gb121) (o := .cells #[.int .i64 a0_0, .int .i64 a0_1, .int .i64 a0_2, .int .i64 a0_3, .int .u8 a0_4, .int .u8 a0_5, .int .i64 a0_6, .int .u32 a0_7, .int .u16 a0_8, .int .i64 a0_9, .int .i64 a0_10, .int .i64 a0_11, .int .u64 a0_12, .int .u64 a0_13, .slice A0_14 l0_14.length c0_14, .int .u64 a0_15, .int .i64 a0_16, .int .u8 a0_17, .int .i64 a0_18, .slice A0_19 l0_19.length c0_19, .int .i64 a0_20, .int .i64 a0_21, .slice A0_22 l0_22.length c0_22] 35 (0, 0)) (by (with_reducible repeat (first | refine blk_drewN ?_ _ | refine blk_drew ?_ | refine blk_alloc ?_ _)); exact BK121.out) hb)
   have n1_ := Aside0.mk (below_step (by repeat (first | (with_reducible first | exact HB.out | apply below_alloc | apply pw_below_drewN | apply below_drew1 | refine below_set ?_ GE121.out) | exact HB.out)) hb)
   clear BK121
   clear HB
   have BK121 := n0_
   have HB := n1_
   clear n0_ n1_
   (try clear hb)
   (try clear hb2)
   (try clear hk)
   (try clear hi)
   refine hK.out _ _ ⟨(blk_cell BK121.out 0).trans rfl, (blk_cell BK121.out 1).trans rfl, (blk_cell BK121.out 2).trans rfl, (blk_cell BK121.out 3).trans rfl, (blk_cell BK121.out 4).trans rfl, (blk_cell BK121.out 5).trans rfl, (blk_cell BK121.out 6).trans rfl, (blk_cell BK121.out 7).trans rfl, (blk_cell BK121.out 8).trans rfl, (blk_cell BK121.out 9).trans rfl, (blk_cell BK121.out 10).trans rfl, (blk_cell BK121.out 11).trans rfl, (blk_cell BK121.out 12).trans rfl, (blk_cell BK121.out 13).trans rfl, (blk_cell BK121.out 14).trans rfl, (blk_cell BK121.out 15).trans rfl, (blk_cell BK121.out 16).trans rfl, (blk_cell BK121.out 17).trans rfl, (blk_cell BK121.out 18).trans rfl, (blk_cell BK121.out 19).trans rfl, (blk_cell BK121.out 20).trans rfl, (blk_cell BK121.out 21).trans rfl, (blk_cell BK121.out 22).trans rfl⟩ (fun hHeld => ?_)
   clear hK K
   refine norm_ (a' := ?_) ?_ ?_
   rotate_left
   ·
    show Act.put _ (some 23) _ = _
    simp only [Act.put, List.setIfInBounds_toArray, List.set_cons_zero, List.set_cons_succ, i64_w, i32_w]
    rfl
   refine one_ (i := 9) (N := some 24) (bb 12 1023) rfl rfl (one_of HT_.out (by kernel_rfl)) (by decide) (fun K hK => ?_)
   refine Kd.R_lit_step Kd.string _ 9 ?hg (N := 24) ?hd (xs := ([(⟨#[104, 111, 115, 116]⟩ : ByteArray), t128, (⟨#[99, 116, 120]⟩ : ByteArray), t129, (⟨#[116, 105, 99, 107, 101, 116]⟩ : ByteArray), t130] : List ByteArray)) (inner := [.string (⟨#[104, 111, 115, 116]⟩ : ByteArray), .string t128, .string (⟨#[99, 116, 120]⟩ : ByteArray), .string t129, .string (⟨#[116, 105, 99, 107, 101, 116]⟩ : ByteArray), .string t130]) (ok := fun _ => True) (okp := fun _ => True) ?hr ?hp (fun _ hk => hk) trivial (Below.refl _ _) (Nat.le_refl _) (by simp) ?_; (case hd => rfl); (case hg => rfl); (case hr => first | (go_simp; done) | (go_simp; rfl)); (case hp => exact (Reps.one (show Kd.M Kd.string _ _ _ (⟨#[104, 111, 115, 116]⟩ : ByteArray) [.string (⟨#[104, 111, 115, 116]⟩ : ByteArray)] from rfl) (Reps.one (show Kd.M Kd.string _ _ _ t128 [.string t128] from rfl) (Reps.one (show Kd.M Kd.string _ _ _ (⟨#[99, 116, 120]⟩ : ByteArray) [.string (⟨#[99, 116, 120]⟩ : ByteArray)] from rfl) (Reps.one (show Kd.M Kd.string _ _ _ t129 [.string t129] from rfl) (Reps.one (show Kd.M Kd.string _ _ _ (⟨#[116, 105, 99, 107, 101, 116]⟩ : ByteArray) [.string (⟨#[116, 105, 99, 107, 101, 116]⟩ : ByteArray)] from rfl) (Reps.one (show Kd.M Kd.string _ _ _ t130 [.string t130] from rfl) (Reps.none _ _))))))))
   intro v132 w29 ho30 hb hg_ hnew_
   clear hg_ hnew_
   (first | rw [← Ny131.out] at ho30 | (simp only [Int.reduceToNat] at ho30; rw [← Ny131.out] at ho30))
   have n0_ := Aside0.mk (Kd.R_lower ho30 (below_size (by repeat (first | (with_reducible first | exact HB.out | apply below_alloc | apply pw_below_drewN | apply below_drew1 | refine below_set ?_ GE121.out) | exact HB.out))))
   have n1_ := Aside0.mk (blk_below (g := gb121) (o := .cells #[.int .i64 a0_0, .int .i64 a0_1, .int .i64 a0_2, .int .i64 a0_3, .int .u8 a0_4, .int .u8 a0_5, .int .i64 a0_6, .int .u32 a0_7, .int .u16 a0_8, .int .i64 a0_9, .int .i64 a0_10, .int .i64 a0_11, .int .u64 a0_12, .int .u64 a0_13, .slice A0_14 l0_14.length c0_14, .int .u64 a0_15, .int .i64 a0_16, .int .u8 a0_17, .int .i64 a0_18, .slice A0_19 l0_19.length c0_19, .int .i64 a0_20, .int .i64 a0_21, .slice A0_22 l0_22.length c0_22] 35 (0, 0)) (by (with_reducible repeat (first | refine blk_drewN ?_ _ | refine blk_drew ?_ | refine blk_alloc ?_ _)); exact BK121.out) hb)
   have n2_ := Aside0.mk (below_step (by repeat (first | (with_reducible first | exact HB.out | apply below_alloc | apply pw_below_drewN | apply below_drew1 | refine below_set ?_ GE121.out) | exact HB.out)) hb)
   clear BK121
   clear HB
   have HO133 := n0_
   have BK121 := n1_
   have HB := n2_
   clear n0_ n1_ n2_
   clear hb ho30
   obtain ⟨Ao31, co31, eo31⟩ := Kd.R_slice HO133.out
   (first | subst eo31 | (injection eo31 with f1_ f2_ f3_; have f4_ := f1_.symm; have f5_ := f3_.symm; clear f1_ f2_ f3_; subst f4_; subst f5_))
   refine hK.out _ _ ⟨(blk_cell BK121.out 0).trans rfl, (blk_cell BK121.out 1).trans rfl, (blk_cell BK121.out 2).trans rfl, (blk_cell BK121.out 3).trans rfl, (blk_cell BK121.out 4).trans rfl, (blk_cell BK121.out 5).trans rfl, (blk_cell BK121.out 6).trans rfl, (blk_cell BK121.out 7).trans rfl, (blk_cell BK121.out 8).trans rfl, (blk_cell BK121.out 9).trans rfl, (blk_cell BK121.out 10).trans rfl, (blk_cell BK121.out 11).trans rfl, (blk_cell BK121.out 12).trans rfl, (blk_cell BK121.out 13).trans rfl, (blk_cell BK121.out 14).trans rfl, (blk_cell BK121.out 15).trans rfl, (blk_cell BK121.out 16).trans rfl, (blk_cell BK121.out 17).trans rfl, (blk_cell BK121.out 18).trans rfl, (blk_cell BK121.out 19).trans rfl, (blk_cell BK121.out 20).trans rfl, (blk_cell BK121.out 21).trans rfl, (blk_cell BK121.out 22).trans rfl⟩ (fun hHeld => ?_)
   clear hK K
   refine norm_ (a' := ?_) ?_ ?_
   rotate_left
   ·
    show Act.put _ (some 24) _ = _
    simp only [Act.put, List.setIfInBounds_toArray, List.set_cons_zero, List.set_cons_succ, i64_w, i32_w]
    rfl
   refine one_ (i := 10) (N := some 25) (bb 12 2047) rfl rfl (one_of HT_.out (by kernel_rfl)) (by decide) (fun K hK => ?_)
   refine goes_ Tryd.func56 (by kernel_rfl) rfl #[.slice Ao31 y131.length co31] (by rfl) rfl rfl (by (try simp only [List.map_toArray, List.map_cons, List.map_nil]); first | done | rfl | (simp only [List.length_drop, List.length_take]; rfl) | (go_simp; done) | (go_simp; omega)) ?_
   with_reducible refine (tell_words.calls _ _ y131 t134 _ ?side1 ?side2 A18.out).mono ?_
   (case side1 => repeat (first | exact (Kd.R_reads' HO133.out).2.2 | (with_reducible refine Kd.C_alloc ?_ _) | (with_reducible refine Kd.C_drewN ?_ _) | (with_reducible refine Kd.C_drew ?_)))
   (case side2 => exact (Kd.R_reads' HO133.out).2.1)
   rintro e w32 ⟨rfl, hb⟩
   refine ⟨_, rfl, ?_⟩
   have n0_ := Aside0.mk (Kd.R_below (by (with_reducible repeat (first | apply Kd.R_alloc | apply Kd.R_drewN | apply Kd.R_drew)); exact HO133.out) hb)
   have n1_ := Aside0.mk (blk_below (g := gb121) (o := .cells #[.int .i64 a0_0, .int .i64 a0_1, .int .i64 a0_2, .int .i64 a0_3, .int .u8 a0_4, .int .u8 a0_5, .int .i64 a0_6, .int .u32 a0_7, .int .u16 a0_8, .int .i64 a0_9, .int .i64 a0_10, .int .i64 a0_11, .int .u64 a0_12, .int .u64 a0_13, .slice A0_14 l0_14.length c0_14, .int .u64 a0_15, .int .i64 a0_16, .int .u8 a0_17, .int .i64 a0_18, .slice A0_19 l0_19.length c0_19, .int .i64 a0_20, .int .i64 a0_21, .slice A0_22 l0_22.length c0_22] 35 (0, 0)) (by (with_reducible repeat (first | refine blk_drewN ?_ _ | refine blk_drew ?_ | refine blk_alloc ?_ _)); exact BK121.out) hb)
   have n2_ := Aside0.mk (below_step (by repeat (first | (with_reducible first | exact HB.out | apply below_alloc | apply pw_below_drewN | apply below_drew1 | refine below_set ?_ GE121.out) | exact HB.out)) hb)
   clear HO133
   clear BK121
   clear HB
   have HO133 := n0_
   have BK121 := n1_
   have HB := n2_
   clear n0_ n1_ n2_
   (try clear hb)
   (try clear hb2)
   (try clear hk)
   (try clear hi)
   refine hK.out _ _ ⟨(blk_cell BK121.out 0).trans rfl, (blk_cell BK121.out 1).trans rfl, (blk_cell BK121.out 2).trans rfl, (blk_cell BK121.out 3).trans rfl, (blk_cell BK121.out 4).trans rfl, (blk_cell BK121.out 5).trans rfl, (blk_cell BK121.out 6).trans rfl, (blk_cell BK121.out 7).trans rfl, (blk_cell BK121.out 8).trans rfl, (blk_cell BK121.out 9).trans rfl, (blk_cell BK121.out 10).trans rfl, (blk_cell BK121.out 11).trans rfl, (blk_cell BK121.out 12).trans rfl, (blk_cell BK121.out 13).trans rfl, (blk_cell BK121.out 14).trans rfl, (blk_cell BK121.out 15).trans rfl, (blk_cell BK121.out 16).trans rfl, (blk_cell BK121.out 17).trans rfl, (blk_cell BK121.out 18).trans rfl, (blk_cell BK121.out 19).trans rfl, (blk_cell BK121.out 20).trans rfl, (blk_cell BK121.out 21).trans rfl, (blk_cell BK121.out 22).trans rfl⟩ (fun hHeld => ?_)
   clear hK K
   refine norm_ (a' := ?_) ?_ ?_
   rotate_left
   ·
    show Act.put _ (some 25) _ = _
    simp only [Act.put, List.setIfInBounds_toArray, List.set_cons_zero, List.set_cons_succ, i64_w, i32_w]
    rfl
   refine pure_ (i := 11) (N := some 3) (v := ?_) (a' := ?_) (bb 12 4095) rfl rfl (any_of HT_.out (by kernel_rfl)) (fun _ _ _ h => h) (Or.inl ⟨by rfl, ?_⟩) ?_ ?_
   rotate_left
   ·
    intro w'
    go_simp
    with_reducible rfl
   rotate_left
   ·
    simp only [Act.put, List.setIfInBounds_toArray, List.set_cons_zero, List.set_cons_succ, i64_w, i32_w]
    rfl
   refine done_ (done_of HT_.out (by kernel_rfl)) ?_
   have hcz33_0 : w32.cell? ⟨gb121, 0, none⟩ = some (.int .i64 a0_0) := (blk_cell BK121.out 0).trans rfl
   have hcz33_1 : w32.cell? ⟨gb121, 1, none⟩ = some (.int .i64 a0_1) := (blk_cell BK121.out 1).trans rfl
   have hcz33_2 : w32.cell? ⟨gb121, 2, none⟩ = some (.int .i64 a0_2) := (blk_cell BK121.out 2).trans rfl
   have hcz33_3 : w32.cell? ⟨gb121, 3, none⟩ = some (.int .i64 a0_3) := (blk_cell BK121.out 3).trans rfl
   have hcz33_4 : w32.cell? ⟨gb121, 4, none⟩ = some (.int .u8 a0_4) := (blk_cell BK121.out 4).trans rfl
   have hcz33_5 : w32.cell? ⟨gb121, 5, none⟩ = some (.int .u8 a0_5) := (blk_cell BK121.out 5).trans rfl
   have hcz33_6 : w32.cell? ⟨gb121, 6, none⟩ = some (.int .i64 a0_6) := (blk_cell BK121.out 6).trans rfl
   have hcz33_7 : w32.cell? ⟨gb121, 7, none⟩ = some (.int .u32 a0_7) := (blk_cell BK121.out 7).trans rfl
   have hcz33_8 : w32.cell? ⟨gb121, 8, none⟩ = some (.int .u16 a0_8) := (blk_cell BK121.out 8).trans rfl
   have hcz33_9 : w32.cell? ⟨gb121, 9, none⟩ = some (.int .i64 a0_9) := (blk_cell BK121.out 9).trans rfl
   have hcz33_10 : w32.cell? ⟨gb121, 10, none⟩ = some (.int .i64 a0_10) := (blk_cell BK121.out 10).trans rfl
   have hcz33_11 : w32.cell? ⟨gb121, 11, none⟩ = some (.int .i64 a0_11) := (blk_cell BK121.out 11).trans rfl
   have hcz33_12 : w32.cell? ⟨gb121, 12, none⟩ = some (.int .u64 a0_12) := (blk_cell BK121.out 12).trans rfl
   have hcz33_13 : w32.cell? ⟨gb121, 13, none⟩ = some (.int .u64 a0_13) := (blk_cell BK121.out 13).trans rfl
   have hcz33_14 : w32.cell? ⟨gb121, 14, none⟩ = some (.slice A0_14 l0_14.length c0_14) := (blk_cell BK121.out 14).trans rfl
   have hcz33_15 : w32.cell? ⟨gb121, 15, none⟩ = some (.int .u64 a0_15) := (blk_cell BK121.out 15).trans rfl
   have hcz33_16 : w32.cell? ⟨gb121, 16, none⟩ = some (.int .i64 a0_16) := (blk_cell BK121.out 16).trans rfl
   have hcz33_17 : w32.cell? ⟨gb121, 17, none⟩ = some (.int .u8 a0_17) := (blk_cell BK121.out 17).trans rfl
   have hcz33_18 : w32.cell? ⟨gb121, 18, none⟩ = some (.int .i64 a0_18) := (blk_cell BK121.out 18).trans rfl
   have hcz33_19 : w32.cell? ⟨gb121, 19, none⟩ = some (.slice A0_19 l0_19.length c0_19) := (blk_cell BK121.out 19).trans rfl
   have hcz33_20 : w32.cell? ⟨gb121, 20, none⟩ = some (.int .i64 a0_20) := (blk_cell BK121.out 20).trans rfl
   have hcz33_21 : w32.cell? ⟨gb121, 21, none⟩ = some (.int .i64 a0_21) := (blk_cell BK121.out 21).trans rfl
   have hcz33_22 : w32.cell? ⟨gb121, 22, none⟩ = some (.slice A0_22 l0_22.length c0_22) := (blk_cell BK121.out 22).trans rfl
   have hfz33_0 := blk_frozen BK121.out 0
   have hfz33_1 := blk_frozen BK121.out 1
   have hfz33_2 := blk_frozen BK121.out 2
   have hfz33_3 := blk_frozen BK121.out 3
   have hfz33_4 := blk_frozen BK121.out 4
   have hfz33_5 := blk_frozen BK121.out 5
   have hfz33_6 := blk_frozen BK121.out 6
   have hfz33_7 := blk_frozen BK121.out 7
   have hfz33_8 := blk_frozen BK121.out 8
   have hfz33_9 := blk_frozen BK121.out 9
   have hfz33_10 := blk_frozen BK121.out 10
   have hfz33_11 := blk_frozen BK121.out 11
   have hfz33_12 := blk_frozen BK121.out 12
   have hfz33_13 := blk_frozen BK121.out 13
   have hfz33_14 := blk_frozen BK121.out 14
   have hfz33_15 := blk_frozen BK121.out 15
   have hfz33_16 := blk_frozen BK121.out 16
   have hfz33_17 := blk_frozen BK121.out 17
   have hfz33_18 := blk_frozen BK121.out 18
   have hfz33_19 := blk_frozen BK121.out 19
   have hfz33_20 := blk_frozen BK121.out 20
   have hfz33_21 := blk_frozen BK121.out 21
   have hfz33_22 := blk_frozen BK121.out 22
   try go_wp2
   have n0_ := Aside0.mk (Kd.R_drew HO133.out)
   have n1_ := Aside0.mk (blk_drew BK121.out)
   have n2_ := Aside0.mk (below_drew1 HB.out)
   clear HO133
   clear BK121
   clear HB
   have HO133 := n0_
   have BK121 := n1_
   have HB := n2_
   clear n0_ n1_ n2_
   refine start_ (n := 13) (S := fun w' => w'.cell? ⟨gb121, 0, none⟩ = some (.int .i64 a0_0) ∧ w'.cell? ⟨gb121, 1, none⟩ = some (.int .i64 a0_1) ∧ w'.cell? ⟨gb121, 2, none⟩ = some (.int .i64 a0_2) ∧ w'.cell? ⟨gb121, 3, none⟩ = some (.int .i64 a0_3) ∧ w'.cell? ⟨gb121, 4, none⟩ = some (.int .u8 a0_4) ∧ w'.cell? ⟨gb121, 5, none⟩ = some (.int .u8 a0_5) ∧ w'.cell? ⟨gb121, 6, none⟩ = some (.int .i64 a0_6) ∧ w'.cell? ⟨gb121, 7, none⟩ = some (.int .u32 a0_7) ∧ w'.cell? ⟨gb121, 8, none⟩ = some (.int .u16 a0_8) ∧ w'.cell? ⟨gb121, 9, none⟩ = some (.int .i64 a0_9) ∧ w'.cell? ⟨gb121, 10, none⟩ = some (.int .i64 a0_10) ∧ w'.cell? ⟨gb121, 11, none⟩ = some (.int .i64 a0_11) ∧ w'.cell? ⟨gb121, 12, none⟩ = some (.int .u64 a0_12) ∧ w'.cell? ⟨gb121, 13, none⟩ = some (.int .u64 a0_13) ∧ w'.cell? ⟨gb121, 14, none⟩ = some (.slice A0_14 l0_14.length c0_14) ∧ w'.cell? ⟨gb121, 15, none⟩ = some (.int .u64 a0_15) ∧ w'.cell? ⟨gb121, 16, none⟩ = some (.int .i64 a0_16) ∧ w'.cell? ⟨gb121, 17, none⟩ = some (.int .u8 a0_17) ∧ w'.cell? ⟨gb121, 18, none⟩ = some (.int .i64 a0_18) ∧ w'.cell? ⟨gb121, 19, none⟩ = some (.slice A0_19 l0_19.length c0_19) ∧ w'.cell? ⟨gb121, 20, none⟩ = some (.int .i64 a0_20) ∧ w'.cell? ⟨gb121, 21, none⟩ = some (.int .i64 a0_21) ∧ w'.cell? ⟨gb121, 22, none⟩ = some (.slice A0_22 l0_22.length c0_22)) (ds := []) (bb 13 0) (by kernel_rfl) rfl rfl ⟨(blk_cell BK121.out 0).trans rfl, (blk_cell BK121.out 1).trans rfl, (blk_cell BK121.out 2).trans rfl, (blk_cell BK121.out 3).trans rfl, (blk_cell BK121.out 4).trans rfl, (blk_cell BK121.out 5).trans rfl, (blk_cell BK121.out 6).trans rfl, (blk_cell BK121.out 7).trans rfl, (blk_cell BK121.out 8).trans rfl, (blk_cell BK121.out 9).trans rfl, (blk_cell BK121.out 10).trans rfl, (blk_cell BK121.out 11).trans rfl, (blk_cell BK121.out 12).trans rfl, (blk_cell BK121.out 13).trans rfl, (blk_cell BK121.out 14).trans rfl, (blk_cell BK121.out 15).trans rfl, (blk_cell BK121.out 16).trans rfl, (blk_cell BK121.out 17).trans rfl, (blk_cell BK121.out 18).trans rfl, (blk_cell BK121.out 19).trans rfl, (blk_cell BK121.out 20).trans rfl, (blk_cell BK121.out 21).trans rfl, (blk_cell BK121.out 22).trans rfl⟩ (fun hHeld => ?_); refine with_tabW tell_Mark.tab6 tell_Mark.bits6 (fun HT_ HW_ => ?_)
   generalize w32.drew = w34 at HO133 BK121 HB hHeld ⊢
   refine pure_ (i := 0) (N := some 30) (v := ?_) (a' := ?_) (bb 13 1) rfl rfl (any_of HT_.out (by kernel_rfl)) (fun _ _ _ h => h) (Or.inl ⟨by rfl, ?_⟩) ?_ ?_
   rotate_left
   ·
    intro w'
    go_simp
    with_reducible rfl
   rotate_left
   ·
    simp only [Act.put, List.setIfInBounds_toArray, List.set_cons_zero, List.set_cons_succ, i64_w, i32_w]
    rfl
   refine pure_ (i := 1) (N := some 31) (v := ?_) (a' := ?_) (bb 13 3) rfl rfl (any_of HT_.out (by kernel_rfl)) (fun _ _ _ h => h) (Or.inl ⟨by rfl, ?_⟩) ?_ ?_
   rotate_left
   ·
    intro w'
    go_simp
    with_reducible rfl
   rotate_left
   ·
    simp only [Act.put, List.setIfInBounds_toArray, List.set_cons_zero, List.set_cons_succ, i64_w, i32_w]
    rfl
   refine pure_ (i := 2) (N := some 32) (v := ?_) (a' := ?_) (bb 13 7) rfl rfl (any_of HT_.out (by kernel_rfl)) (fun _ _ _ h => h) (Or.inl ⟨by rfl, ?_⟩) ?_ ?_
   rotate_left
   ·
    intro w'
    go_simp
    with_reducible rfl
   rotate_left
   ·
    simp only [Act.put, List.setIfInBounds_toArray, List.set_cons_zero, List.set_cons_succ, i64_w, i32_w]
    rfl
   refine pure_ (i := 6) (N := some 36) (v := ?_) (a' := ?_) (bb 13 71) rfl rfl (any_of HT_.out (by kernel_rfl)) (fun _ _ _ h => h) (Or.inl ⟨by rfl, ?_⟩) ?_ ?_
   rotate_left
   ·
    intro w'
    go_simp
    with_reducible rfl
   rotate_left
   ·
    simp only [Act.put, List.setIfInBounds_toArray, List.set_cons_zero, List.set_cons_succ, i64_w, i32_w]
    rfl
   refine pure_ (i := 7) (N := some 37) (v := ?_) (a' := ?_) (bb 13 199) rfl rfl (any_of HT_.out (by kernel_rfl)) (fun _ _ _ h => h) (Or.inl ⟨by rfl, ?_⟩) ?_ ?_
   rotate_left
   ·
    intro w'
    go_simp
    with_reducible rfl
   rotate_left
   ·
    simp only [Act.put, List.setIfInBounds_toArray, List.set_cons_zero, List.set_cons_succ, i64_w, i32_w]
    rfl
   refine take_ (i := 3) (N := some 33) (v := ?_) (a' := ?_) (bb 13 207) rfl rfl (take_ofW HT_.out HW_.out (by kernel_rfl)) (fun _ _ _ h => h) (Or.inl ⟨by rfl, ?_⟩) hHeld ?_ ?_
   rotate_left
   ·
    rintro w' ⟨s0, s1, s2, s3, s4, s5, s6, s7, s8, s9, s10, s11, s12, s13, s14, s15, s16, s17, s18, s19, s20, s21, s22⟩
    go_simp
    with_reducible rfl
   rotate_left
   ·
    simp only [Act.put, List.setIfInBounds_toArray, List.set_cons_zero, List.set_cons_succ, i64_w, i32_w]
    rfl
   refine pure_ (i := 4) (N := some 34) (v := ?_) (a' := ?_) (bb 13 223) rfl rfl (any_of HT_.out (by kernel_rfl)) (fun _ _ _ h => h) (Or.inl ⟨by rfl, ?_⟩) ?_ ?_
   rotate_left
   ·
    intro w'
    go_simp
    with_reducible rfl
   rotate_left
   ·
    simp only [Act.put, List.setIfInBounds_toArray, List.set_cons_zero, List.set_cons_succ, i64_w, i32_w]
    rfl
   refine take_ (i := 8) (N := some 38) (v := ?_) (a' := ?_) (bb 13 479) rfl rfl (take_ofW HT_.out HW_.out (by kernel_rfl)) (fun _ _ _ h => h) (Or.inl ⟨by rfl, ?_⟩) hHeld ?_ ?_
   rotate_left
   ·
    rintro w' ⟨s0, s1, s2, s3, s4, s5, s6, s7, s8, s9, s10, s11, s12, s13, s14, s15, s16, s17, s18, s19, s20, s21, s22⟩
    go_simp
    with_reducible rfl
   rotate_left
   ·
    simp only [Act.put, List.setIfInBounds_toArray, List.set_cons_zero, List.set_cons_succ, i64_w, i32_w]
    rfl
   refine one_ (i := 5) (N := some 35) (bb 13 511) rfl rfl (one_of HT_.out (by kernel_rfl)) (by decide) (fun K hK => ?_)
   refine goes_ Tryd.func58 (by kernel_rfl) rfl #[.int .i64 (wrap64 (a0_4))] (by rfl) rfl rfl (by (try simp only [List.map_toArray, List.map_cons, List.map_nil]); first | done | rfl | (simp only [List.length_drop, List.length_take]; rfl) | (go_simp; done) | (go_simp; omega)) ?_
   with_reducible refine (entry_Name.calls (wrap64 (a0_4)) t135 _ A20.out).mono ?_
   rintro e w35 ⟨rfl, hb⟩
   refine ⟨_, rfl, ?_⟩
   have n0_ := Aside0.mk (Kd.R_below (by (with_reducible repeat (first | apply Kd.R_alloc | apply Kd.R_drewN | apply Kd.R_drew)); exact HO133.out) hb)
   have n1_ := Aside0.mk (blk_below (g := gb121) (o := .cells #[.int .i64 a0_0, .int .i64 a0_1, .int .i64 a0_2, .int .i64 a0_3, .int .u8 a0_4, .int .u8 a0_5, .int .i64 a0_6, .int .u32 a0_7, .int .u16 a0_8, .int .i64 a0_9, .int .i64 a0_10, .int .i64 a0_11, .int .u64 a0_12, .int .u64 a0_13, .slice A0_14 l0_14.length c0_14, .int .u64 a0_15, .int .i64 a0_16, .int .u8 a0_17, .int .i64 a0_18, .slice A0_19 l0_19.length c0_19, .int .i64 a0_20, .int .i64 a0_21, .slice A0_22 l0_22.length c0_22] 35 (0, 0)) (by (with_reducible repeat (first | refine blk_drewN ?_ _ | refine blk_drew ?_ | refine blk_alloc ?_ _)); exact BK121.out) hb)
   have n2_ := Aside0.mk (below_step (by repeat (first | (with_reducible first | exact HB.out | apply below_alloc | apply pw_below_drewN | apply below_drew1 | refine below_set ?_ GE121.out) | exact HB.out)) hb)
   clear HO133
   clear BK121
   clear HB
   have HO133 := n0_
   have BK121 := n1_
   have HB := n2_
   clear n0_ n1_ n2_
   (try clear hb)
   (try clear hb2)
   (try clear hk)
   (try clear hi)
   refine hK.out _ _ ⟨(blk_cell BK121.out 0).trans rfl, (blk_cell BK121.out 1).trans rfl, (blk_cell BK121.out 2).trans rfl, (blk_cell BK121.out 3).trans rfl, (blk_cell BK121.out 4).trans rfl, (blk_cell BK121.out 5).trans rfl, (blk_cell BK121.out 6).trans rfl, (blk_cell BK121.out 7).trans rfl, (blk_cell BK121.out 8).trans rfl, (blk_cell BK121.out 9).trans rfl, (blk_cell BK121.out 10).trans rfl, (blk_cell BK121.out 11).trans rfl, (blk_cell BK121.out 12).trans rfl, (blk_cell BK121.out 13).trans rfl, (blk_cell BK121.out 14).trans rfl, (blk_cell BK121.out 15).trans rfl, (blk_cell BK121.out 16).trans rfl, (blk_cell BK121.out 17).trans rfl, (blk_cell BK121.out 18).trans rfl, (blk_cell BK121.out 19).trans rfl, (blk_cell BK121.out 20).trans rfl, (blk_cell BK121.out 21).trans rfl, (blk_cell BK121.out 22).trans rfl⟩ (fun hHeld => ?_)
   clear hK K
   refine norm_ (a' := ?_) ?_ ?_
   rotate_left
   ·
    show Act.put _ (some 35) _ = _
    simp only [Act.put, List.setIfInBounds_toArray, List.set_cons_zero, List.set_cons_succ, i64_w, i32_w]
    rfl
   refine one_ (i := 9) (N := some 39) (bb 13 1023) rfl rfl (one_of HT_.out (by kernel_rfl)) (by decide) (fun K hK => ?_)
   refine goes_ Tryd.func59 (by kernel_rfl) rfl #[.int .u64 a0_13] (by rfl) rfl rfl (by (try simp only [List.map_toArray, List.map_cons, List.map_nil]); first | done | rfl | (simp only [List.length_drop, List.length_take]; rfl) | (go_simp; done) | (go_simp; omega)) ?_
   with_reducible refine (tell_user.calls a0_13 t136 _ A21.out (ht := (by first | exact HT.out | exact Go.Proofs.YtcebnaknodghcaaDoor.HItoa.Tab.below HT.out (by repeat (first | (with_reducible first | exact HB.out | apply below_alloc | apply pw_below_drewN | apply below_drew1) | exact HB.out))))).mono ?_
   rintro e w36 ⟨rfl, hb⟩
   refine ⟨_, rfl, ?_⟩
   have n0_ := Aside0.mk (Kd.R_below (by (with_reducible repeat (first | apply Kd.R_alloc | apply Kd.R_drewN | apply Kd.R_drew)); exact HO133.out) hb)
   have n1_ := Aside0.mk (blk_below (g := gb121) (o := .cells #[.int .i64 a0_0, .int .i64 a0_1, .int .i64 a0_2, .int .i64 a0_3, .int .u8 a0_4, .int .u8 a0_5, .int .i64 a0_6, .int .u32 a0_7, .int .u16 a0_8, .int .i64 a0_9, .int .i64 a0_10, .int .i64 a0_11, .int .u64 a0_12, .int .u64 a0_13, .slice A0_14 l0_14.length c0_14, .int .u64 a0_15, .int .i64 a0_16, .int .u8 a0_17, .int .i64 a0_18, .slice A0_19 l0_19.length c0_19, .int .i64 a0_20, .int .i64 a0_21, .slice A0_22 l0_22.length c0_22] 35 (0, 0)) (by (with_reducible repeat (first | refine blk_drewN ?_ _ | refine blk_drew ?_ | refine blk_alloc ?_ _)); exact BK121.out) hb)
   have n2_ := Aside0.mk (below_step (by repeat (first | (with_reducible first | exact HB.out | apply below_alloc | apply pw_below_drewN | apply below_drew1 | refine below_set ?_ GE121.out) | exact HB.out)) hb)
   clear HO133
   clear BK121
   clear HB
   have HO133 := n0_
   have BK121 := n1_
   have HB := n2_
   clear n0_ n1_ n2_
   (try clear hb)
   (try clear hb2)
   (try clear hk)
   (try clear hi)
   refine hK.out _ _ ⟨(blk_cell BK121.out 0).trans rfl, (blk_cell BK121.out 1).trans rfl, (blk_cell BK121.out 2).trans rfl, (blk_cell BK121.out 3).trans rfl, (blk_cell BK121.out 4).trans rfl, (blk_cell BK121.out 5).trans rfl, (blk_cell BK121.out 6).trans rfl, (blk_cell BK121.out 7).trans rfl, (blk_cell BK121.out 8).trans rfl, (blk_cell BK121.out 9).trans rfl, (blk_cell BK121.out 10).trans rfl, (blk_cell BK121.out 11).trans rfl, (blk_cell BK121.out 12).trans rfl, (blk_cell BK121.out 13).trans rfl, (blk_cell BK121.out 14).trans rfl, (blk_cell BK121.out 15).trans rfl, (blk_cell BK121.out 16).trans rfl, (blk_cell BK121.out 17).trans rfl, (blk_cell BK121.out 18).trans rfl, (blk_cell BK121.out 19).trans rfl, (blk_cell BK121.out 20).trans rfl, (blk_cell BK121.out 21).trans rfl, (blk_cell BK121.out 22).trans rfl⟩ (fun hHeld => ?_)
   clear hK K
   refine norm_ (a' := ?_) ?_ ?_
   rotate_left
   ·
    show Act.put _ (some 39) _ = _
    simp only [Act.put, List.setIfInBounds_toArray, List.set_cons_zero, List.set_cons_succ, i64_w, i32_w]
    rfl
   refine one_ (i := 10) (N := some 40) (bb 13 2047) rfl rfl (one_of HT_.out (by kernel_rfl)) (by decide) (fun K hK => ?_)
   refine Kd.R_lit_step Kd.string _ 9 ?hg (N := 40) ?hd (xs := ([t134, (⟨#[116, 111, 111, 107]⟩ : ByteArray), t135, t136] : List ByteArray)) (inner := [.string t134, .string (⟨#[116, 111, 111, 107]⟩ : ByteArray), .string t135, .string t136]) (ok := fun _ => True) (okp := fun _ => True) ?hr ?hp (fun _ hk => hk) trivial (Below.refl _ _) (Nat.le_refl _) (by simp) ?_; (case hd => rfl); (case hg => rfl); (case hr => first | (go_simp; done) | (go_simp; rfl)); (case hp => exact (Reps.one (show Kd.M Kd.string _ _ _ t134 [.string t134] from rfl) (Reps.one (show Kd.M Kd.string _ _ _ (⟨#[116, 111, 111, 107]⟩ : ByteArray) [.string (⟨#[116, 111, 111, 107]⟩ : ByteArray)] from rfl) (Reps.one (show Kd.M Kd.string _ _ _ t135 [.string t135] from rfl) (Reps.one (show Kd.M Kd.string _ _ _ t136 [.string t136] from rfl) (Reps.none _ _))))))
   intro v138 w37 ho38 hb hg_ hnew_
   clear hg_ hnew_
   (first | rw [← Ny137.out] at ho38 | (simp only [Int.reduceToNat] at ho38; rw [← Ny137.out] at ho38))
   have n0_ := Aside0.mk (Kd.R_elder' (by (with_reducible repeat (first | apply Kd.R_alloc | apply Kd.R_drewN | apply Kd.R_drew)); exact HO133.out) (Kd.R_base ho38) hb)
   have n1_ := Aside0.mk (Kd.R_lower (Kd.R_new' ho38 (Kd.R_lt (by (with_reducible repeat (first | apply Kd.R_alloc | apply Kd.R_drewN | apply Kd.R_drew)); exact HO133.out))) (below_size (by repeat (first | (with_reducible first | exact HB.out | apply below_alloc | apply pw_below_drewN | apply below_drew1 | refine below_set ?_ GE121.out) | exact HB.out))))
   have n2_ := Aside0.mk (blk_below (g := gb121) (o := .cells #[.int .i64 a0_0, .int .i64 a0_1, .int .i64 a0_2, .int .i64 a0_3, .int .u8 a0_4, .int .u8 a0_5, .int .i64 a0_6, .int .u32 a0_7, .int .u16 a0_8, .int .i64 a0_9, .int .i64 a0_10, .int .i64 a0_11, .int .u64 a0_12, .int .u64 a0_13, .slice A0_14 l0_14.length c0_14, .int .u64 a0_15, .int .i64 a0_16, .int .u8 a0_17, .int .i64 a0_18, .slice A0_19 l0_19.length c0_19, .int .i64 a0_20, .int .i64 a0_21, .slice A0_22 l0_22.length c0_22] 35 (0, 0)) (by (with_reducible repeat (first | refine blk_drewN ?_ _ | refine blk_drew ?_ | refine blk_alloc ?_ _)); exact BK121.out) hb)
   have n3_ := Aside0.mk (below_step (by repeat (first | (with_reducible first | exact HB.out | apply below_alloc | apply pw_below_drewN | apply below_drew1 | refine below_set ?_ GE121.out) | exact HB.out)) hb)
   clear HO133
   clear BK121
   clear HB
   have HO133 := n0_
   have HO139 := n1_
   have BK121 := n2_
   have HB := n3_
   clear n0_ n1_ n2_ n3_
   clear hb ho38
   obtain ⟨Ao39, co39, eo39⟩ := Kd.R_slice HO139.out
   (first | subst eo39 | (injection eo39 with f1_ f2_ f3_; have f4_ := f1_.symm; have f5_ := f3_.symm; clear f1_ f2_ f3_; subst f4_; subst f5_))
   refine hK.out _ _ ⟨(blk_cell BK121.out 0).trans rfl, (blk_cell BK121.out 1).trans rfl, (blk_cell BK121.out 2).trans rfl, (blk_cell BK121.out 3).trans rfl, (blk_cell BK121.out 4).trans rfl, (blk_cell BK121.out 5).trans rfl, (blk_cell BK121.out 6).trans rfl, (blk_cell BK121.out 7).trans rfl, (blk_cell BK121.out 8).trans rfl, (blk_cell BK121.out 9).trans rfl, (blk_cell BK121.out 10).trans rfl, (blk_cell BK121.out 11).trans rfl, (blk_cell BK121.out 12).trans rfl, (blk_cell BK121.out 13).trans rfl, (blk_cell BK121.out 14).trans rfl, (blk_cell BK121.out 15).trans rfl, (blk_cell BK121.out 16).trans rfl, (blk_cell BK121.out 17).trans rfl, (blk_cell BK121.out 18).trans rfl, (blk_cell BK121.out 19).trans rfl, (blk_cell BK121.out 20).trans rfl, (blk_cell BK121.out 21).trans rfl, (blk_cell BK121.out 22).trans rfl⟩ (fun hHeld => ?_)
   clear hK K
   refine norm_ (a' := ?_) ?_ ?_
   rotate_left
   ·
    show Act.put _ (some 40) _ = _
    simp only [Act.put, List.setIfInBounds_toArray, List.set_cons_zero, List.set_cons_succ, i64_w, i32_w]
    rfl
   refine one_ (i := 11) (N := some 41) (bb 13 4095) rfl rfl (one_of HT_.out (by kernel_rfl)) (by decide) (fun K hK => ?_)
   refine goes_ Tryd.func56 (by kernel_rfl) rfl #[.slice Ao39 y137.length co39] (by rfl) rfl rfl (by (try simp only [List.map_toArray, List.map_cons, List.map_nil]); first | done | rfl | (simp only [List.length_drop, List.length_take]; rfl) | (go_simp; done) | (go_simp; omega)) ?_
   with_reducible refine (tell_words.calls _ _ y137 t140 _ ?side1 ?side2 A22.out).mono ?_
   (case side1 => repeat (first | exact (Kd.R_reads' HO139.out).2.2 | (with_reducible refine Kd.C_alloc ?_ _) | (with_reducible refine Kd.C_drewN ?_ _) | (with_reducible refine Kd.C_drew ?_)))
   (case side2 => exact (Kd.R_reads' HO139.out).2.1)
   rintro e w40 ⟨rfl, hb⟩
   refine ⟨_, rfl, ?_⟩
   have n0_ := Aside0.mk (Kd.R_below (by (with_reducible repeat (first | apply Kd.R_alloc | apply Kd.R_drewN | apply Kd.R_drew)); exact HO133.out) hb)
   have n1_ := Aside0.mk (Kd.R_below (by (with_reducible repeat (first | apply Kd.R_alloc | apply Kd.R_drewN | apply Kd.R_drew)); exact HO139.out) hb)
   have n2_ := Aside0.mk (blk_below (g := gb121) (o := .cells #[.int .i64 a0_0, .int .i64 a0_1, .int .i64 a0_2, .int .i64 a0_3, .int .u8 a0_4, .int .u8 a0_5, .int .i64 a0_6, .int .u32 a0_7, .int .u16 a0_8, .int .i64 a0_9, .int .i64 a0_10, .int .i64 a0_11, .int .u64 a0_12, .int .u64 a0_13, .slice A0_14 l0_14.length c0_14, .int .u64 a0_15, .int .i64 a0_16, .int .u8 a0_17, .int .i64 a0_18, .slice A0_19 l0_19.length c0_19, .int .i64 a0_20, .int .i64 a0_21, .slice A0_22 l0_22.length c0_22] 35 (0, 0)) (by (with_reducible repeat (first | refine blk_drewN ?_ _ | refine blk_drew ?_ | refine blk_alloc ?_ _)); exact BK121.out) hb)
   have n3_ := Aside0.mk (below_step (by repeat (first | (with_reducible first | exact HB.out | apply below_alloc | apply pw_below_drewN | apply below_drew1 | refine below_set ?_ GE121.out) | exact HB.out)) hb)
   clear HO133
   clear HO139
   clear BK121
   clear HB
   have HO133 := n0_
   have HO139 := n1_
   have BK121 := n2_
   have HB := n3_
   clear n0_ n1_ n2_ n3_
   (try clear hb)
   (try clear hb2)
   (try clear hk)
   (try clear hi)
   refine hK.out _ _ ⟨(blk_cell BK121.out 0).trans rfl, (blk_cell BK121.out 1).trans rfl, (blk_cell BK121.out 2).trans rfl, (blk_cell BK121.out 3).trans rfl, (blk_cell BK121.out 4).trans rfl, (blk_cell BK121.out 5).trans rfl, (blk_cell BK121.out 6).trans rfl, (blk_cell BK121.out 7).trans rfl, (blk_cell BK121.out 8).trans rfl, (blk_cell BK121.out 9).trans rfl, (blk_cell BK121.out 10).trans rfl, (blk_cell BK121.out 11).trans rfl, (blk_cell BK121.out 12).trans rfl, (blk_cell BK121.out 13).trans rfl, (blk_cell BK121.out 14).trans rfl, (blk_cell BK121.out 15).trans rfl, (blk_cell BK121.out 16).trans rfl, (blk_cell BK121.out 17).trans rfl, (blk_cell BK121.out 18).trans rfl, (blk_cell BK121.out 19).trans rfl, (blk_cell BK121.out 20).trans rfl, (blk_cell BK121.out 21).trans rfl, (blk_cell BK121.out 22).trans rfl⟩ (fun hHeld => ?_)
   clear hK K
   refine norm_ (a' := ?_) ?_ ?_
   rotate_left
   ·
    show Act.put _ (some 41) _ = _
    simp only [Act.put, List.setIfInBounds_toArray, List.set_cons_zero, List.set_cons_succ, i64_w, i32_w]
    rfl
   refine pure_ (i := 12) (N := some 2) (v := ?_) (a' := ?_) (bb 13 8191) rfl rfl (any_of HT_.out (by kernel_rfl)) (fun _ _ _ h => h) (Or.inl ⟨by rfl, ?_⟩) ?_ ?_
   rotate_left
   ·
    intro w'
    go_simp
    with_reducible rfl
   rotate_left
   ·
    simp only [Act.put, List.setIfInBounds_toArray, List.set_cons_zero, List.set_cons_succ, i64_w, i32_w]
    rfl
   refine done_ (done_of HT_.out (by kernel_rfl)) ?_
   try go_wp2
   go_ret
   exact ⟨by first | rfl | (simp [errW_none, errW_some] <;> rfl) | (simp [*, errW_none, errW_some] <;> rfl), by repeat (first | (with_reducible first | exact HB.out | apply below_alloc | apply pw_below_drewN | apply below_drew1 | refine below_set ?_ GE121.out) | exact HB.out)⟩
  ·
   rw [if_neg c19] at H
   have c19b0 : (a0_0 == 0) = false := beq_eq_false_iff_ne.mpr c19
   have c19b1 : (a0_0 != 0) = true := bne_iff_ne.mpr c19
   by_cases c41 : a0_0 = 1
   ·
    rw [if_pos c41] at H
    have c41b0 : (a0_0 == 1) = true := beq_iff_eq.mpr c41
    have c41b1 : (a0_0 != 1) = false := bne_eq_false_iff_eq.mpr c41
    clear c41
    replace H := Option.bind_eq_some_iff.mp H
    obtain ⟨t141, A420, H⟩ := H
    replace H : ((tell_num.f (l0_22.length : Int)).bind fun t142 => ((tell_words.f (([t134, (⟨#[100, 105, 100]⟩ : ByteArray), t141, (⟨#[98, 121, 116, 101, 115]⟩ : ByteArray), t142] : List ByteArray))).bind fun t146 => (some t146))) = some r := H
    have A42 := Aside0.mk A420
    clear A420
    replace H := Option.bind_eq_some_iff.mp H
    obtain ⟨t142, A430, H⟩ := H
    replace H : ((tell_words.f (([t134, (⟨#[100, 105, 100]⟩ : ByteArray), t141, (⟨#[98, 121, 116, 101, 115]⟩ : ByteArray), t142] : List ByteArray))).bind fun t146 => (some t146)) = some r := H
    have A43 := Aside0.mk A430
    clear A430
    obtain ⟨y143, hy143⟩ : ∃ y_ : List ByteArray, y_ = (([t134, (⟨#[100, 105, 100]⟩ : ByteArray), t141, (⟨#[98, 121, 116, 101, 115]⟩ : ByteArray), t142] : List ByteArray)) := ⟨_, rfl⟩
    replace H : ((tell_words.f y143).bind fun t146 => (some t146)) = some r := by first | (rw [hy143]; with_reducible exact H) | (have H2_ := (Option.bind_some _ _).symm.trans H; rw [hy143]; with_reducible exact H2_) | (have H2_ := (Option.bind_some _ _).symm.trans H; with_reducible exact H2_) | with_reducible exact H | (rw [hy143]; exact H) | exact H
    have Ny143 := Aside0.mk hy143
    clear hy143
    replace H := Option.bind_eq_some_iff.mp H
    obtain ⟨t146, A440, H⟩ := H
    replace H : (some t146) = some r := H
    have A44 := Aside0.mk A440
    clear A440
    obtain rfl := Option.some.inj H
    go_enter Tryd.func15, Tryd.ntmps15
    try go_wp2_with (first | ((with_reducible refine gate_dst (N := 1) rfl ?_); refine box_event ?hg (N := 1) ?hd (cs := #[.int .i64 a0_0, .int .i64 a0_1, .int .i64 a0_2, .int .i64 a0_3, .int .u8 a0_4, .int .u8 a0_5, .int .i64 a0_6, .int .u32 a0_7, .int .u16 a0_8, .int .i64 a0_9, .int .i64 a0_10, .int .i64 a0_11, .int .u64 a0_12, .int .u64 a0_13, .slice A0_14 l0_14.length c0_14, .int .u64 a0_15, .int .i64 a0_16, .int .u8 a0_17, .int .i64 a0_18, .slice A0_19 l0_19.length c0_19, .int .i64 a0_20, .int .i64 a0_21, .slice A0_22 l0_22.length c0_22]) (t := 35) ?hr ?_; (case hd => rfl); (case hg => rfl); (case hr => first | (go_simp; done) | (go_simp; rfl)); intro gb121 hg w45 hbox hb; have n0_ := Aside0.mk (below_step (by repeat (first | (with_reducible first | exact HB.out | apply below_alloc | apply pw_below_drewN | apply below_drew1) | exact HB.out)) hb); have n1_ := Aside0.mk (hbox); have n2_ := Aside0.mk ((by rw [hg]; exact (below_size (by repeat (first | (with_reducible first | exact HB.out | apply below_alloc | apply pw_below_drewN | apply below_drew1) | exact HB.out))) : w.heap.size ≤ gb121)); have n3_ := Aside0.mk ((by rw [hg]; exact (below_size (by repeat (first | (with_reducible first | exact HB.out | apply below_alloc | apply pw_below_drewN | apply below_drew1) | exact HB.out))) : w.heap.size ≤ gb121)); clear HB; have HB := n0_; have BK121 := n1_; have GW121 := n2_; have GE121 := n3_; clear n0_ n1_ n2_ n3_; clear hb hbox hg; have hcz46_0 : w45.cell? ⟨gb121, 0, none⟩ = some (.int .i64 a0_0) := (blk_cell BK121.out 0).trans rfl; have hcz46_1 : w45.cell? ⟨gb121, 1, none⟩ = some (.int .i64 a0_1) := (blk_cell BK121.out 1).trans rfl; have hcz46_2 : w45.cell? ⟨gb121, 2, none⟩ = some (.int .i64 a0_2) := (blk_cell BK121.out 2).trans rfl; have hcz46_3 : w45.cell? ⟨gb121, 3, none⟩ = some (.int .i64 a0_3) := (blk_cell BK121.out 3).trans rfl; have hcz46_4 : w45.cell? ⟨gb121, 4, none⟩ = some (.int .u8 a0_4) := (blk_cell BK121.out 4).trans rfl; have hcz46_5 : w45.cell? ⟨gb121, 5, none⟩ = some (.int .u8 a0_5) := (blk_cell BK121.out 5).trans rfl; have hcz46_6 : w45.cell? ⟨gb121, 6, none⟩ = some (.int .i64 a0_6) := (blk_cell BK121.out 6).trans rfl; have hcz46_7 : w45.cell? ⟨gb121, 7, none⟩ = some (.int .u32 a0_7) := (blk_cell BK121.out 7).trans rfl; have hcz46_8 : w45.cell? ⟨gb121, 8, none⟩ = some (.int .u16 a0_8) := (blk_cell BK121.out 8).trans rfl; have hcz46_9 : w45.cell? ⟨gb121, 9, none⟩ = some (.int .i64 a0_9) := (blk_cell BK121.out 9).trans rfl; have hcz46_10 : w45.cell? ⟨gb121, 10, none⟩ = some (.int .i64 a0_10) := (blk_cell BK121.out 10).trans rfl; have hcz46_11 : w45.cell? ⟨gb121, 11, none⟩ = some (.int .i64 a0_11) := (blk_cell BK121.out 11).trans rfl; have hcz46_12 : w45.cell? ⟨gb121, 12, none⟩ = some (.int .u64 a0_12) := (blk_cell BK121.out 12).trans rfl; have hcz46_13 : w45.cell? ⟨gb121, 13, none⟩ = some (.int .u64 a0_13) := (blk_cell BK121.out 13).trans rfl; have hcz46_14 : w45.cell? ⟨gb121, 14, none⟩ = some (.slice A0_14 l0_14.length c0_14) := (blk_cell BK121.out 14).trans rfl; have hcz46_15 : w45.cell? ⟨gb121, 15, none⟩ = some (.int .u64 a0_15) := (blk_cell BK121.out 15).trans rfl; have hcz46_16 : w45.cell? ⟨gb121, 16, none⟩ = some (.int .i64 a0_16) := (blk_cell BK121.out 16).trans rfl; have hcz46_17 : w45.cell? ⟨gb121, 17, none⟩ = some (.int .u8 a0_17) := (blk_cell BK121.out 17).trans rfl; have hcz46_18 : w45.cell? ⟨gb121, 18, none⟩ = some (.int .i64 a0_18) := (blk_cell BK121.out 18).trans rfl; have hcz46_19 : w45.cell? ⟨gb121, 19, none⟩ = some (.slice A0_19 l0_19.length c0_19) := (blk_cell BK121.out 19).trans rfl; have hcz46_20 : w45.cell? ⟨gb121, 20, none⟩ = some (.int .i64 a0_20) := (blk_cell BK121.out 20).trans rfl; have hcz46_21 : w45.cell? ⟨gb121, 21, none⟩ = some (.int .i64 a0_21) := (blk_cell BK121.out 21).trans rfl; have hcz46_22 : w45.cell? ⟨gb121, 22, none⟩ = some (.slice A0_22 l0_22.length c0_22) := (blk_cell BK121.out 22).trans rfl; have hfz46_0 := blk_frozen BK121.out 0; have hfz46_1 := blk_frozen BK121.out 1; have hfz46_2 := blk_frozen BK121.out 2; have hfz46_3 := blk_frozen BK121.out 3; have hfz46_4 := blk_frozen BK121.out 4; have hfz46_5 := blk_frozen BK121.out 5; have hfz46_6 := blk_frozen BK121.out 6; have hfz46_7 := blk_frozen BK121.out 7; have hfz46_8 := blk_frozen BK121.out 8; have hfz46_9 := blk_frozen BK121.out 9; have hfz46_10 := blk_frozen BK121.out 10; have hfz46_11 := blk_frozen BK121.out 11; have hfz46_12 := blk_frozen BK121.out 12; have hfz46_13 := blk_frozen BK121.out 13; have hfz46_14 := blk_frozen BK121.out 14; have hfz46_15 := blk_frozen BK121.out 15; have hfz46_16 := blk_frozen BK121.out 16; have hfz46_17 := blk_frozen BK121.out 17; have hfz46_18 := blk_frozen BK121.out 18; have hfz46_19 := blk_frozen BK121.out 19; have hfz46_20 := blk_frozen BK121.out 20; have hfz46_21 := blk_frozen BK121.out 21; have hfz46_22 := blk_frozen BK121.out 22))
    have n0_ := Aside0.mk (blk_drew BK121.out)
    have n1_ := Aside0.mk (below_drew1 HB.out)
    clear BK121
    clear HB
    have BK121 := n0_
    have HB := n1_
    clear n0_ n1_
    refine start_ (n := 12) (S := fun w' => w'.cell? ⟨gb121, 0, none⟩ = some (.int .i64 a0_0) ∧ w'.cell? ⟨gb121, 1, none⟩ = some (.int .i64 a0_1) ∧ w'.cell? ⟨gb121, 2, none⟩ = some (.int .i64 a0_2) ∧ w'.cell? ⟨gb121, 3, none⟩ = some (.int .i64 a0_3) ∧ w'.cell? ⟨gb121, 4, none⟩ = some (.int .u8 a0_4) ∧ w'.cell? ⟨gb121, 5, none⟩ = some (.int .u8 a0_5) ∧ w'.cell? ⟨gb121, 6, none⟩ = some (.int .i64 a0_6) ∧ w'.cell? ⟨gb121, 7, none⟩ = some (.int .u32 a0_7) ∧ w'.cell? ⟨gb121, 8, none⟩ = some (.int .u16 a0_8) ∧ w'.cell? ⟨gb121, 9, none⟩ = some (.int .i64 a0_9) ∧ w'.cell? ⟨gb121, 10, none⟩ = some (.int .i64 a0_10) ∧ w'.cell? ⟨gb121, 11, none⟩ = some (.int .i64 a0_11) ∧ w'.cell? ⟨gb121, 12, none⟩ = some (.int .u64 a0_12) ∧ w'.cell? ⟨gb121, 13, none⟩ = some (.int .u64 a0_13) ∧ w'.cell? ⟨gb121, 14, none⟩ = some (.slice A0_14 l0_14.length c0_14) ∧ w'.cell? ⟨gb121, 15, none⟩ = some (.int .u64 a0_15) ∧ w'.cell? ⟨gb121, 16, none⟩ = some (.int .i64 a0_16) ∧ w'.cell? ⟨gb121, 17, none⟩ = some (.int .u8 a0_17) ∧ w'.cell? ⟨gb121, 18, none⟩ = some (.int .i64 a0_18) ∧ w'.cell? ⟨gb121, 19, none⟩ = some (.slice A0_19 l0_19.length c0_19) ∧ w'.cell? ⟨gb121, 20, none⟩ = some (.int .i64 a0_20) ∧ w'.cell? ⟨gb121, 21, none⟩ = some (.int .i64 a0_21) ∧ w'.cell? ⟨gb121, 22, none⟩ = some (.slice A0_22 l0_22.length c0_22)) (ds := []) (bb 12 0) (by kernel_rfl) rfl rfl ⟨(blk_cell BK121.out 0).trans rfl, (blk_cell BK121.out 1).trans rfl, (blk_cell BK121.out 2).trans rfl, (blk_cell BK121.out 3).trans rfl, (blk_cell BK121.out 4).trans rfl, (blk_cell BK121.out 5).trans rfl, (blk_cell BK121.out 6).trans rfl, (blk_cell BK121.out 7).trans rfl, (blk_cell BK121.out 8).trans rfl, (blk_cell BK121.out 9).trans rfl, (blk_cell BK121.out 10).trans rfl, (blk_cell BK121.out 11).trans rfl, (blk_cell BK121.out 12).trans rfl, (blk_cell BK121.out 13).trans rfl, (blk_cell BK121.out 14).trans rfl, (blk_cell BK121.out 15).trans rfl, (blk_cell BK121.out 16).trans rfl, (blk_cell BK121.out 17).trans rfl, (blk_cell BK121.out 18).trans rfl, (blk_cell BK121.out 19).trans rfl, (blk_cell BK121.out 20).trans rfl, (blk_cell BK121.out 21).trans rfl, (blk_cell BK121.out 22).trans rfl⟩ (fun hHeld => ?_); refine with_tabW tell_Mark.tab3 tell_Mark.bits3 (fun HT_ HW_ => ?_)
    generalize w45.drew = w47 at BK121 HB hHeld ⊢
    refine pure_ (i := 0) (N := some 15) (v := ?_) (a' := ?_) (bb 12 1) rfl rfl (any_of HT_.out (by kernel_rfl)) (fun _ _ _ h => h) (Or.inl ⟨by rfl, ?_⟩) ?_ ?_
    rotate_left
    ·
     intro w'
     go_simp
     with_reducible rfl
    rotate_left
    ·
     simp only [Act.put, List.setIfInBounds_toArray, List.set_cons_zero, List.set_cons_succ, i64_w, i32_w]
     rfl
    refine pure_ (i := 3) (N := some 18) (v := ?_) (a' := ?_) (bb 12 9) rfl rfl (any_of HT_.out (by kernel_rfl)) (fun _ _ _ h => h) (Or.inl ⟨by rfl, ?_⟩) ?_ ?_
    rotate_left
    ·
     intro w'
     go_simp
     with_reducible rfl
    rotate_left
    ·
     simp only [Act.put, List.setIfInBounds_toArray, List.set_cons_zero, List.set_cons_succ, i64_w, i32_w]
     rfl
    refine pure_ (i := 6) (N := some 21) (v := ?_) (a' := ?_) (bb 12 73) rfl rfl (any_of HT_.out (by kernel_rfl)) (fun _ _ _ h => h) (Or.inl ⟨by rfl, ?_⟩) ?_ ?_
    rotate_left
    ·
     intro w'
     go_simp
     with_reducible rfl
    rotate_left
    ·
     simp only [Act.put, List.setIfInBounds_toArray, List.set_cons_zero, List.set_cons_succ, i64_w, i32_w]
     rfl
    refine take_ (i := 1) (N := some 16) (v := ?_) (a' := ?_) (bb 12 75) rfl rfl (take_ofW HT_.out HW_.out (by kernel_rfl)) (fun _ _ _ h => h) (Or.inl ⟨by rfl, ?_⟩) hHeld ?_ ?_
    rotate_left
    ·
     rintro w' ⟨s0, s1, s2, s3, s4, s5, s6, s7, s8, s9, s10, s11, s12, s13, s14, s15, s16, s17, s18, s19, s20, s21, s22⟩
     go_simp
     with_reducible rfl
    rotate_left
    ·
     simp only [Act.put, List.setIfInBounds_toArray, List.set_cons_zero, List.set_cons_succ, i64_w, i32_w]
     rfl
    refine take_ (i := 4) (N := some 19) (v := ?_) (a' := ?_) (bb 12 91) rfl rfl (take_ofW HT_.out HW_.out (by kernel_rfl)) (fun _ _ _ h => h) (Or.inl ⟨by rfl, ?_⟩) hHeld ?_ ?_
    rotate_left
    ·
     rintro w' ⟨s0, s1, s2, s3, s4, s5, s6, s7, s8, s9, s10, s11, s12, s13, s14, s15, s16, s17, s18, s19, s20, s21, s22⟩
     go_simp
     with_reducible rfl
    rotate_left
    ·
     simp only [Act.put, List.setIfInBounds_toArray, List.set_cons_zero, List.set_cons_succ, i64_w, i32_w]
     rfl
    refine take_ (i := 7) (N := some 22) (v := ?_) (a' := ?_) (bb 12 219) rfl rfl (take_ofW HT_.out HW_.out (by kernel_rfl)) (fun _ _ _ h => h) (Or.inl ⟨by rfl, ?_⟩) hHeld ?_ ?_
    rotate_left
    ·
     rintro w' ⟨s0, s1, s2, s3, s4, s5, s6, s7, s8, s9, s10, s11, s12, s13, s14, s15, s16, s17, s18, s19, s20, s21, s22⟩
     go_simp
     with_reducible rfl
    rotate_left
    ·
     simp only [Act.put, List.setIfInBounds_toArray, List.set_cons_zero, List.set_cons_succ, i64_w, i32_w]
     rfl
    refine one_ (i := 2) (N := some 17) (bb 12 223) rfl rfl (one_of HT_.out (by kernel_rfl)) (by decide) (fun K hK => ?_)
    refine goes_ Tryd.func57 (by kernel_rfl) rfl #[.int .i64 a0_1] (by rfl) rfl rfl (by (try simp only [List.map_toArray, List.map_cons, List.map_nil]); first | done | rfl | (simp only [List.length_drop, List.length_take]; rfl) | (go_simp; done) | (go_simp; omega)) ?_
    with_reducible refine (tell_num.calls a0_1 t128 _ A15.out (ht := (by first | exact HT.out | exact Go.Proofs.YtcebnaknodghcaaDoor.HItoa.Tab.below HT.out (by repeat (first | (with_reducible first | exact HB.out | apply below_alloc | apply pw_below_drewN | apply below_drew1) | exact HB.out))))).mono ?_
    rintro e w48 ⟨rfl, hb⟩
    refine ⟨_, rfl, ?_⟩
    have n0_ := Aside0.mk (blk_below (g := gb121) (o := .cells #[.int .i64 a0_0, .int .i64 a0_1, .int .i64 a0_2, .int .i64 a0_3, .int .u8 a0_4, .int .u8 a0_5, .int .i64 a0_6, .int .u32 a0_7, .int .u16 a0_8, .int .i64 a0_9, .int .i64 a0_10, .int .i64 a0_11, .int .u64 a0_12, .int .u64 a0_13, .slice A0_14 l0_14.length c0_14, .int .u64 a0_15, .int .i64 a0_16, .int .u8 a0_17, .int .i64 a0_18, .slice A0_19 l0_19.length c0_19, .int .i64 a0_20, .int .i64 a0_21, .slice A0_22 l0_22.length c0_22] 35 (0, 0)) (by (with_reducible repeat (first | refine blk_drewN ?_ _ | refine blk_drew ?_ | refine blk_alloc ?_ _)); exact BK121.out) hb)
    have n1_ := Aside0.mk (below_step (by repeat (first | (with_reducible first | exact HB.out | apply below_alloc | apply pw_below_drewN | apply below_drew1 | refine below_set ?_ GE121.out) | exact HB.out)) hb)
    clear BK121
    clear HB
    have BK121 := n0_
    have HB := n1_
    clear n0_ n1_
    (try clear hb)
    (try clear hb2)
    (try clear hk)
    (try clear hi)
    refine hK.out _ _ ⟨(blk_cell BK121.out 0).trans rfl, (blk_cell BK121.out 1).trans rfl, (blk_cell BK121.out 2).trans rfl, (blk_cell BK121.out 3).trans rfl, (blk_cell BK121.out 4).trans rfl, (blk_cell BK121.out 5).trans rfl, (blk_cell BK121.out 6).trans rfl, (blk_cell BK121.out 7).trans rfl, (blk_cell BK121.out 8).trans rfl, (blk_cell BK121.out 9).trans rfl, (blk_cell BK121.out 10).trans rfl, (blk_cell BK121.out 11).trans rfl, (blk_cell BK121.out 12).trans rfl, (blk_cell BK121.out 13).trans rfl, (blk_cell BK121.out 14).trans rfl, (blk_cell BK121.out 15).trans rfl, (blk_cell BK121.out 16).trans rfl, (blk_cell BK121.out 17).trans rfl, (blk_cell BK121.out 18).trans rfl, (blk_cell BK121.out 19).trans rfl, (blk_cell BK121.out 20).trans rfl, (blk_cell BK121.out 21).trans rfl, (blk_cell BK121.out 22).trans rfl⟩ (fun hHeld => ?_)
    clear hK K
    refine norm_ (a' := ?_) ?_ ?_
    rotate_left
    ·
     show Act.put _ (some 17) _ = _
     simp only [Act.put, List.setIfInBounds_toArray, List.set_cons_zero, List.set_cons_succ, i64_w, i32_w]
     rfl
    refine one_ (i := 5) (N := some 20) (bb 12 255) rfl rfl (one_of HT_.out (by kernel_rfl)) (by decide) (fun K hK => ?_)
    refine goes_ Tryd.func57 (by kernel_rfl) rfl #[.int .i64 a0_2] (by rfl) rfl rfl (by (try simp only [List.map_toArray, List.map_cons, List.map_nil]); first | done | rfl | (simp only [List.length_drop, List.length_take]; rfl) | (go_simp; done) | (go_simp; omega)) ?_
    with_reducible refine (tell_num.calls a0_2 t129 _ A16.out (ht := (by first | exact HT.out | exact Go.Proofs.YtcebnaknodghcaaDoor.HItoa.Tab.below HT.out (by repeat (first | (with_reducible first | exact HB.out | apply below_alloc | apply pw_below_drewN | apply below_drew1) | exact HB.out))))).mono ?_
    rintro e w49 ⟨rfl, hb⟩
    refine ⟨_, rfl, ?_⟩
    have n0_ := Aside0.mk (blk_below (g := gb121) (o := .cells #[.int .i64 a0_0, .int .i64 a0_1, .int .i64 a0_2, .int .i64 a0_3, .int .u8 a0_4, .int .u8 a0_5, .int .i64 a0_6, .int .u32 a0_7, .int .u16 a0_8, .int .i64 a0_9, .int .i64 a0_10, .int .i64 a0_11, .int .u64 a0_12, .int .u64 a0_13, .slice A0_14 l0_14.length c0_14, .int .u64 a0_15, .int .i64 a0_16, .int .u8 a0_17, .int .i64 a0_18, .slice A0_19 l0_19.length c0_19, .int .i64 a0_20, .int .i64 a0_21, .slice A0_22 l0_22.length c0_22] 35 (0, 0)) (by (with_reducible repeat (first | refine blk_drewN ?_ _ | refine blk_drew ?_ | refine blk_alloc ?_ _)); exact BK121.out) hb)
    have n1_ := Aside0.mk (below_step (by repeat (first | (with_reducible first | exact HB.out | apply below_alloc | apply pw_below_drewN | apply below_drew1 | refine below_set ?_ GE121.out) | exact HB.out)) hb)
    clear BK121
    clear HB
    have BK121 := n0_
    have HB := n1_
    clear n0_ n1_
    (try clear hb)
    (try clear hb2)
    (try clear hk)
    (try clear hi)
    refine hK.out _ _ ⟨(blk_cell BK121.out 0).trans rfl, (blk_cell BK121.out 1).trans rfl, (blk_cell BK121.out 2).trans rfl, (blk_cell BK121.out 3).trans rfl, (blk_cell BK121.out 4).trans rfl, (blk_cell BK121.out 5).trans rfl, (blk_cell BK121.out 6).trans rfl, (blk_cell BK121.out 7).trans rfl, (blk_cell BK121.out 8).trans rfl, (blk_cell BK121.out 9).trans rfl, (blk_cell BK121.out 10).trans rfl, (blk_cell BK121.out 11).trans rfl, (blk_cell BK121.out 12).trans rfl, (blk_cell BK121.out 13).trans rfl, (blk_cell BK121.out 14).trans rfl, (blk_cell BK121.out 15).trans rfl, (blk_cell BK121.out 16).trans rfl, (blk_cell BK121.out 17).trans rfl, (blk_cell BK121.out 18).trans rfl, (blk_cell BK121.out 19).trans rfl, (blk_cell BK121.out 20).trans rfl, (blk_cell BK121.out 21).trans rfl, (blk_cell BK121.out 22).trans rfl⟩ (fun hHeld => ?_)
    clear hK K
    refine norm_ (a' := ?_) ?_ ?_
    rotate_left
    ·
     show Act.put _ (some 20) _ = _
     simp only [Act.put, List.setIfInBounds_toArray, List.set_cons_zero, List.set_cons_succ, i64_w, i32_w]
     rfl
    refine one_ (i := 8) (N := some 23) (bb 12 511) rfl rfl (one_of HT_.out (by kernel_rfl)) (by decide) (fun K hK => ?_)
    refine goes_ Tryd.func57 (by kernel_rfl) rfl #[.int .i64 a0_3] (by rfl) rfl rfl (by (try simp only [List.map_toArray, List.map_cons, List.map_nil]); first | done | rfl | (simp only [List.length_drop, List.length_take]; rfl) | (go_simp; done) | (go_simp; omega)) ?_
    with_reducible refine (tell_num.calls a0_3 t130 _ A17.out (ht := (by first | exact HT.out | exact Go.Proofs.YtcebnaknodghcaaDoor.HItoa.Tab.below HT.out (by repeat (first | (with_reducible first | exact HB.out | apply below_alloc | apply pw_below_drewN | apply below_drew1) | exact HB.out))))).mono ?_
    rintro e w50 ⟨rfl, hb⟩
    refine ⟨_, rfl, ?_⟩
    have n0_ := Aside0.mk (blk_below (g := gb121) (o := .cells #[.int .i64 a0_0, .int .i64 a0_1, .int .i64 a0_2, .int .i64 a0_3, .int .u8 a0_4, .int .u8 a0_5, .int .i64 a0_6, .int .u32 a0_7, .int .u16 a0_8, .int .i64 a0_9, .int .i64 a0_10, .int .i64 a0_11, .int .u64 a0_12, .int .u64 a0_13, .slice A0_14 l0_14.length c0_14, .int .u64 a0_15, .int .i64 a0_16, .int .u8 a0_17, .int .i64 a0_18, .slice A0_19 l0_19.length c0_19, .int .i64 a0_20, .int .i64 a0_21, .slice A0_22 l0_22.length c0_22] 35 (0, 0)) (by (with_reducible repeat (first | refine blk_drewN ?_ _ | refine blk_drew ?_ | refine blk_alloc ?_ _)); exact BK121.out) hb)
    have n1_ := Aside0.mk (below_step (by repeat (first | (with_reducible first | exact HB.out | apply below_alloc | apply pw_below_drewN | apply below_drew1 | refine below_set ?_ GE121.out) | exact HB.out)) hb)
    clear BK121
    clear HB
    have BK121 := n0_
    have HB := n1_
    clear n0_ n1_
    (try clear hb)
    (try clear hb2)
    (try clear hk)
    (try clear hi)
    refine hK.out _ _ ⟨(blk_cell BK121.out 0).trans rfl, (blk_cell BK121.out 1).trans rfl, (blk_cell BK121.out 2).trans rfl, (blk_cell BK121.out 3).trans rfl, (blk_cell BK121.out 4).trans rfl, (blk_cell BK121.out 5).trans rfl, (blk_cell BK121.out 6).trans rfl, (blk_cell BK121.out 7).trans rfl, (blk_cell BK121.out 8).trans rfl, (blk_cell BK121.out 9).trans rfl, (blk_cell BK121.out 10).trans rfl, (blk_cell BK121.out 11).trans rfl, (blk_cell BK121.out 12).trans rfl, (blk_cell BK121.out 13).trans rfl, (blk_cell BK121.out 14).trans rfl, (blk_cell BK121.out 15).trans rfl, (blk_cell BK121.out 16).trans rfl, (blk_cell BK121.out 17).trans rfl, (blk_cell BK121.out 18).trans rfl, (blk_cell BK121.out 19).trans rfl, (blk_cell BK121.out 20).trans rfl, (blk_cell BK121.out 21).trans rfl, (blk_cell BK121.out 22).trans rfl⟩ (fun hHeld => ?_)
    clear hK K
    refine norm_ (a' := ?_) ?_ ?_
    rotate_left
    ·
     show Act.put _ (some 23) _ = _
     simp only [Act.put, List.setIfInBounds_toArray, List.set_cons_zero, List.set_cons_succ, i64_w, i32_w]
     rfl
    refine one_ (i := 9) (N := some 24) (bb 12 1023) rfl rfl (one_of HT_.out (by kernel_rfl)) (by decide) (fun K hK => ?_)
    refine Kd.R_lit_step Kd.string _ 9 ?hg (N := 24) ?hd (xs := ([(⟨#[104, 111, 115, 116]⟩ : ByteArray), t128, (⟨#[99, 116, 120]⟩ : ByteArray), t129, (⟨#[116, 105, 99, 107, 101, 116]⟩ : ByteArray), t130] : List ByteArray)) (inner := [.string (⟨#[104, 111, 115, 116]⟩ : ByteArray), .string t128, .string (⟨#[99, 116, 120]⟩ : ByteArray), .string t129, .string (⟨#[116, 105, 99, 107, 101, 116]⟩ : ByteArray), .string t130]) (ok := fun _ => True) (okp := fun _ => True) ?hr ?hp (fun _ hk => hk) trivial (Below.refl _ _) (Nat.le_refl _) (by simp) ?_; (case hd => rfl); (case hg => rfl); (case hr => first | (go_simp; done) | (go_simp; rfl)); (case hp => exact (Reps.one (show Kd.M Kd.string _ _ _ (⟨#[104, 111, 115, 116]⟩ : ByteArray) [.string (⟨#[104, 111, 115, 116]⟩ : ByteArray)] from rfl) (Reps.one (show Kd.M Kd.string _ _ _ t128 [.string t128] from rfl) (Reps.one (show Kd.M Kd.string _ _ _ (⟨#[99, 116, 120]⟩ : ByteArray) [.string (⟨#[99, 116, 120]⟩ : ByteArray)] from rfl) (Reps.one (show Kd.M Kd.string _ _ _ t129 [.string t129] from rfl) (Reps.one (show Kd.M Kd.string _ _ _ (⟨#[116, 105, 99, 107, 101, 116]⟩ : ByteArray) [.string (⟨#[116, 105, 99, 107, 101, 116]⟩ : ByteArray)] from rfl) (Reps.one (show Kd.M Kd.string _ _ _ t130 [.string t130] from rfl) (Reps.none _ _))))))))
    intro v132 w51 ho52 hb hg_ hnew_
    clear hg_ hnew_
    (first | rw [← Ny131.out] at ho52 | (simp only [Int.reduceToNat] at ho52; rw [← Ny131.out] at ho52))
    have n0_ := Aside0.mk (Kd.R_lower ho52 (below_size (by repeat (first | (with_reducible first | exact HB.out | apply below_alloc | apply pw_below_drewN | apply below_drew1 | refine below_set ?_ GE121.out) | exact HB.out))))
    have n1_ := Aside0.mk (blk_below (g := gb121) (o := .cells #[.int .i64 a0_0, .int .i64 a0_1, .int .i64 a0_2, .int .i64 a0_3, .int .u8 a0_4, .int .u8 a0_5, .int .i64 a0_6, .int .u32 a0_7, .int .u16 a0_8, .int .i64 a0_9, .int .i64 a0_10, .int .i64 a0_11, .int .u64 a0_12, .int .u64 a0_13, .slice A0_14 l0_14.length c0_14, .int .u64 a0_15, .int .i64 a0_16, .int .u8 a0_17, .int .i64 a0_18, .slice A0_19 l0_19.length c0_19, .int .i64 a0_20, .int .i64 a0_21, .slice A0_22 l0_22.length c0_22] 35 (0, 0)) (by (with_reducible repeat (first | refine blk_drewN ?_ _ | refine blk_drew ?_ | refine blk_alloc ?_ _)); exact BK121.out) hb)
    have n2_ := Aside0.mk (below_step (by repeat (first | (with_reducible first | exact HB.out | apply below_alloc | apply pw_below_drewN | apply below_drew1 | refine below_set ?_ GE121.out) | exact HB.out)) hb)
    clear BK121
    clear HB
    have HO133 := n0_
    have BK121 := n1_
    have HB := n2_
    clear n0_ n1_ n2_
    clear hb ho52
    obtain ⟨Ao53, co53, eo53⟩ := Kd.R_slice HO133.out
    (first | subst eo53 | (injection eo53 with f1_ f2_ f3_; have f4_ := f1_.symm; have f5_ := f3_.symm; clear f1_ f2_ f3_; subst f4_; subst f5_))
    refine hK.out _ _ ⟨(blk_cell BK121.out 0).trans rfl, (blk_cell BK121.out 1).trans rfl, (blk_cell BK121.out 2).trans rfl, (blk_cell BK121.out 3).trans rfl, (blk_cell BK121.out 4).trans rfl, (blk_cell BK121.out 5).trans rfl, (blk_cell BK121.out 6).trans rfl, (blk_cell BK121.out 7).trans rfl, (blk_cell BK121.out 8).trans rfl, (blk_cell BK121.out 9).trans rfl, (blk_cell BK121.out 10).trans rfl, (blk_cell BK121.out 11).trans rfl, (blk_cell BK121.out 12).trans rfl, (blk_cell BK121.out 13).trans rfl, (blk_cell BK121.out 14).trans rfl, (blk_cell BK121.out 15).trans rfl, (blk_cell BK121.out 16).trans rfl, (blk_cell BK121.out 17).trans rfl, (blk_cell BK121.out 18).trans rfl, (blk_cell BK121.out 19).trans rfl, (blk_cell BK121.out 20).trans rfl, (blk_cell BK121.out 21).trans rfl, (blk_cell BK121.out 22).trans rfl⟩ (fun hHeld => ?_)
    clear hK K
    refine norm_ (a' := ?_) ?_ ?_
    rotate_left
    ·
     show Act.put _ (some 24) _ = _
     simp only [Act.put, List.setIfInBounds_toArray, List.set_cons_zero, List.set_cons_succ, i64_w, i32_w]
     rfl
    refine one_ (i := 10) (N := some 25) (bb 12 2047) rfl rfl (one_of HT_.out (by kernel_rfl)) (by decide) (fun K hK => ?_)
    refine goes_ Tryd.func56 (by kernel_rfl) rfl #[.slice Ao53 y131.length co53] (by rfl) rfl rfl (by (try simp only [List.map_toArray, List.map_cons, List.map_nil]); first | done | rfl | (simp only [List.length_drop, List.length_take]; rfl) | (go_simp; done) | (go_simp; omega)) ?_
    with_reducible refine (tell_words.calls _ _ y131 t134 _ ?side1 ?side2 A18.out).mono ?_
    (case side1 => repeat (first | exact (Kd.R_reads' HO133.out).2.2 | (with_reducible refine Kd.C_alloc ?_ _) | (with_reducible refine Kd.C_drewN ?_ _) | (with_reducible refine Kd.C_drew ?_)))
    (case side2 => exact (Kd.R_reads' HO133.out).2.1)
    rintro e w54 ⟨rfl, hb⟩
    refine ⟨_, rfl, ?_⟩
    have n0_ := Aside0.mk (Kd.R_below (by (with_reducible repeat (first | apply Kd.R_alloc | apply Kd.R_drewN | apply Kd.R_drew)); exact HO133.out) hb)
    have n1_ := Aside0.mk (blk_below (g := gb121) (o := .cells #[.int .i64 a0_0, .int .i64 a0_1, .int .i64 a0_2, .int .i64 a0_3, .int .u8 a0_4, .int .u8 a0_5, .int .i64 a0_6, .int .u32 a0_7, .int .u16 a0_8, .int .i64 a0_9, .int .i64 a0_10, .int .i64 a0_11, .int .u64 a0_12, .int .u64 a0_13, .slice A0_14 l0_14.length c0_14, .int .u64 a0_15, .int .i64 a0_16, .int .u8 a0_17, .int .i64 a0_18, .slice A0_19 l0_19.length c0_19, .int .i64 a0_20, .int .i64 a0_21, .slice A0_22 l0_22.length c0_22] 35 (0, 0)) (by (with_reducible repeat (first | refine blk_drewN ?_ _ | refine blk_drew ?_ | refine blk_alloc ?_ _)); exact BK121.out) hb)
    have n2_ := Aside0.mk (below_step (by repeat (first | (with_reducible first | exact HB.out | apply below_alloc | apply pw_below_drewN | apply below_drew1 | refine below_set ?_ GE121.out) | exact HB.out)) hb)
    clear HO133
    clear BK121
    clear HB
    have HO133 := n0_
    have BK121 := n1_
    have HB := n2_
    clear n0_ n1_ n2_
    (try clear hb)
    (try clear hb2)
    (try clear hk)
    (try clear hi)
    refine hK.out _ _ ⟨(blk_cell BK121.out 0).trans rfl, (blk_cell BK121.out 1).trans rfl, (blk_cell BK121.out 2).trans rfl, (blk_cell BK121.out 3).trans rfl, (blk_cell BK121.out 4).trans rfl, (blk_cell BK121.out 5).trans rfl, (blk_cell BK121.out 6).trans rfl, (blk_cell BK121.out 7).trans rfl, (blk_cell BK121.out 8).trans rfl, (blk_cell BK121.out 9).trans rfl, (blk_cell BK121.out 10).trans rfl, (blk_cell BK121.out 11).trans rfl, (blk_cell BK121.out 12).trans rfl, (blk_cell BK121.out 13).trans rfl, (blk_cell BK121.out 14).trans rfl, (blk_cell BK121.out 15).trans rfl, (blk_cell BK121.out 16).trans rfl, (blk_cell BK121.out 17).trans rfl, (blk_cell BK121.out 18).trans rfl, (blk_cell BK121.out 19).trans rfl, (blk_cell BK121.out 20).trans rfl, (blk_cell BK121.out 21).trans rfl, (blk_cell BK121.out 22).trans rfl⟩ (fun hHeld => ?_)
    clear hK K
    refine norm_ (a' := ?_) ?_ ?_
    rotate_left
    ·
     show Act.put _ (some 25) _ = _
     simp only [Act.put, List.setIfInBounds_toArray, List.set_cons_zero, List.set_cons_succ, i64_w, i32_w]
     rfl
    refine pure_ (i := 11) (N := some 3) (v := ?_) (a' := ?_) (bb 12 4095) rfl rfl (any_of HT_.out (by kernel_rfl)) (fun _ _ _ h => h) (Or.inl ⟨by rfl, ?_⟩) ?_ ?_
    rotate_left
    ·
     intro w'
     go_simp
     with_reducible rfl
    rotate_left
    ·
     simp only [Act.put, List.setIfInBounds_toArray, List.set_cons_zero, List.set_cons_succ, i64_w, i32_w]
     rfl
    refine done_ (done_of HT_.out (by kernel_rfl)) ?_
    have hcz55_0 : w54.cell? ⟨gb121, 0, none⟩ = some (.int .i64 a0_0) := (blk_cell BK121.out 0).trans rfl
    have hcz55_1 : w54.cell? ⟨gb121, 1, none⟩ = some (.int .i64 a0_1) := (blk_cell BK121.out 1).trans rfl
    have hcz55_2 : w54.cell? ⟨gb121, 2, none⟩ = some (.int .i64 a0_2) := (blk_cell BK121.out 2).trans rfl
    have hcz55_3 : w54.cell? ⟨gb121, 3, none⟩ = some (.int .i64 a0_3) := (blk_cell BK121.out 3).trans rfl
    have hcz55_4 : w54.cell? ⟨gb121, 4, none⟩ = some (.int .u8 a0_4) := (blk_cell BK121.out 4).trans rfl
    have hcz55_5 : w54.cell? ⟨gb121, 5, none⟩ = some (.int .u8 a0_5) := (blk_cell BK121.out 5).trans rfl
    have hcz55_6 : w54.cell? ⟨gb121, 6, none⟩ = some (.int .i64 a0_6) := (blk_cell BK121.out 6).trans rfl
    have hcz55_7 : w54.cell? ⟨gb121, 7, none⟩ = some (.int .u32 a0_7) := (blk_cell BK121.out 7).trans rfl
    have hcz55_8 : w54.cell? ⟨gb121, 8, none⟩ = some (.int .u16 a0_8) := (blk_cell BK121.out 8).trans rfl
    have hcz55_9 : w54.cell? ⟨gb121, 9, none⟩ = some (.int .i64 a0_9) := (blk_cell BK121.out 9).trans rfl
    have hcz55_10 : w54.cell? ⟨gb121, 10, none⟩ = some (.int .i64 a0_10) := (blk_cell BK121.out 10).trans rfl
    have hcz55_11 : w54.cell? ⟨gb121, 11, none⟩ = some (.int .i64 a0_11) := (blk_cell BK121.out 11).trans rfl
    have hcz55_12 : w54.cell? ⟨gb121, 12, none⟩ = some (.int .u64 a0_12) := (blk_cell BK121.out 12).trans rfl
    have hcz55_13 : w54.cell? ⟨gb121, 13, none⟩ = some (.int .u64 a0_13) := (blk_cell BK121.out 13).trans rfl
    have hcz55_14 : w54.cell? ⟨gb121, 14, none⟩ = some (.slice A0_14 l0_14.length c0_14) := (blk_cell BK121.out 14).trans rfl
    have hcz55_15 : w54.cell? ⟨gb121, 15, none⟩ = some (.int .u64 a0_15) := (blk_cell BK121.out 15).trans rfl
    have hcz55_16 : w54.cell? ⟨gb121, 16, none⟩ = some (.int .i64 a0_16) := (blk_cell BK121.out 16).trans rfl
    have hcz55_17 : w54.cell? ⟨gb121, 17, none⟩ = some (.int .u8 a0_17) := (blk_cell BK121.out 17).trans rfl
    have hcz55_18 : w54.cell? ⟨gb121, 18, none⟩ = some (.int .i64 a0_18) := (blk_cell BK121.out 18).trans rfl
    have hcz55_19 : w54.cell? ⟨gb121, 19, none⟩ = some (.slice A0_19 l0_19.length c0_19) := (blk_cell BK121.out 19).trans rfl
    have hcz55_20 : w54.cell? ⟨gb121, 20, none⟩ = some (.int .i64 a0_20) := (blk_cell BK121.out 20).trans rfl
    have hcz55_21 : w54.cell? ⟨gb121, 21, none⟩ = some (.int .i64 a0_21) := (blk_cell BK121.out 21).trans rfl
    have hcz55_22 : w54.cell? ⟨gb121, 22, none⟩ = some (.slice A0_22 l0_22.length c0_22) := (blk_cell BK121.out 22).trans rfl
    have hfz55_0 := blk_frozen BK121.out 0
    have hfz55_1 := blk_frozen BK121.out 1
    have hfz55_2 := blk_frozen BK121.out 2
    have hfz55_3 := blk_frozen BK121.out 3
    have hfz55_4 := blk_frozen BK121.out 4
    have hfz55_5 := blk_frozen BK121.out 5
    have hfz55_6 := blk_frozen BK121.out 6
    have hfz55_7 := blk_frozen BK121.out 7
    have hfz55_8 := blk_frozen BK121.out 8
    have hfz55_9 := blk_frozen BK121.out 9
    have hfz55_10 := blk_frozen BK121.out 10
    have hfz55_11 := blk_frozen BK121.out 11
    have hfz55_12 := blk_frozen BK121.out 12
    have hfz55_13 := blk_frozen BK121.out 13
    have hfz55_14 := blk_frozen BK121.out 14
    have hfz55_15 := blk_frozen BK121.out 15
    have hfz55_16 := blk_frozen BK121.out 16
    have hfz55_17 := blk_frozen BK121.out 17
    have hfz55_18 := blk_frozen BK121.out 18
    have hfz55_19 := blk_frozen BK121.out 19
    have hfz55_20 := blk_frozen BK121.out 20
    have hfz55_21 := blk_frozen BK121.out 21
    have hfz55_22 := blk_frozen BK121.out 22
    try go_wp2
    have n0_ := Aside0.mk (Kd.R_drew HO133.out)
    have n1_ := Aside0.mk (blk_drew BK121.out)
    have n2_ := Aside0.mk (below_drew1 HB.out)
    clear HO133
    clear BK121
    clear HB
    have HO133 := n0_
    have BK121 := n1_
    have HB := n2_
    clear n0_ n1_ n2_
    refine start_ (n := 11) (S := fun w' => w'.cell? ⟨gb121, 0, none⟩ = some (.int .i64 a0_0) ∧ w'.cell? ⟨gb121, 1, none⟩ = some (.int .i64 a0_1) ∧ w'.cell? ⟨gb121, 2, none⟩ = some (.int .i64 a0_2) ∧ w'.cell? ⟨gb121, 3, none⟩ = some (.int .i64 a0_3) ∧ w'.cell? ⟨gb121, 4, none⟩ = some (.int .u8 a0_4) ∧ w'.cell? ⟨gb121, 5, none⟩ = some (.int .u8 a0_5) ∧ w'.cell? ⟨gb121, 6, none⟩ = some (.int .i64 a0_6) ∧ w'.cell? ⟨gb121, 7, none⟩ = some (.int .u32 a0_7) ∧ w'.cell? ⟨gb121, 8, none⟩ = some (.int .u16 a0_8) ∧ w'.cell? ⟨gb121, 9, none⟩ = some (.int .i64 a0_9) ∧ w'.cell? ⟨gb121, 10, none⟩ = some (.int .i64 a0_10) ∧ w'.cell? ⟨gb121, 11, none⟩ = some (.int .i64 a0_11) ∧ w'.cell? ⟨gb121, 12, none⟩ = some (.int .u64 a0_12) ∧ w'.cell? ⟨gb121, 13, none⟩ = some (.int .u64 a0_13) ∧ w'.cell? ⟨gb121, 14, none⟩ = some (.slice A0_14 l0_14.length c0_14) ∧ w'.cell? ⟨gb121, 15, none⟩ = some (.int .u64 a0_15) ∧ w'.cell? ⟨gb121, 16, none⟩ = some (.int .i64 a0_16) ∧ w'.cell? ⟨gb121, 17, none⟩ = some (.int .u8 a0_17) ∧ w'.cell? ⟨gb121, 18, none⟩ = some (.int .i64 a0_18) ∧ w'.cell? ⟨gb121, 19, none⟩ = some (.slice A0_19 l0_19.length c0_19) ∧ w'.cell? ⟨gb121, 20, none⟩ = some (.int .i64 a0_20) ∧ w'.cell? ⟨gb121, 21, none⟩ = some (.int .i64 a0_21) ∧ w'.cell? ⟨gb121, 22, none⟩ = some (.slice A0_22 l0_22.length c0_22)) (ds := []) (bb 11 0) (by kernel_rfl) rfl rfl ⟨(blk_cell BK121.out 0).trans rfl, (blk_cell BK121.out 1).trans rfl, (blk_cell BK121.out 2).trans rfl, (blk_cell BK121.out 3).trans rfl, (blk_cell BK121.out 4).trans rfl, (blk_cell BK121.out 5).trans rfl, (blk_cell BK121.out 6).trans rfl, (blk_cell BK121.out 7).trans rfl, (blk_cell BK121.out 8).trans rfl, (blk_cell BK121.out 9).trans rfl, (blk_cell BK121.out 10).trans rfl, (blk_cell BK121.out 11).trans rfl, (blk_cell BK121.out 12).trans rfl, (blk_cell BK121.out 13).trans rfl, (blk_cell BK121.out 14).trans rfl, (blk_cell BK121.out 15).trans rfl, (blk_cell BK121.out 16).trans rfl, (blk_cell BK121.out 17).trans rfl, (blk_cell BK121.out 18).trans rfl, (blk_cell BK121.out 19).trans rfl, (blk_cell BK121.out 20).trans rfl, (blk_cell BK121.out 21).trans rfl, (blk_cell BK121.out 22).trans rfl⟩ (fun hHeld => ?_); refine with_tabW tell_Mark.tab8 tell_Mark.bits8 (fun HT_ HW_ => ?_)
    generalize w54.drew = w56 at HO133 BK121 HB hHeld ⊢
    refine pure_ (i := 0) (N := some 44) (v := ?_) (a' := ?_) (bb 11 1) rfl rfl (any_of HT_.out (by kernel_rfl)) (fun _ _ _ h => h) (Or.inl ⟨by rfl, ?_⟩) ?_ ?_
    rotate_left
    ·
     intro w'
     go_simp
     with_reducible rfl
    rotate_left
    ·
     simp only [Act.put, List.setIfInBounds_toArray, List.set_cons_zero, List.set_cons_succ, i64_w, i32_w]
     rfl
    refine pure_ (i := 1) (N := some 45) (v := ?_) (a' := ?_) (bb 11 3) rfl rfl (any_of HT_.out (by kernel_rfl)) (fun _ _ _ h => h) (Or.inl ⟨by rfl, ?_⟩) ?_ ?_
    rotate_left
    ·
     intro w'
     go_simp
     with_reducible rfl
    rotate_left
    ·
     simp only [Act.put, List.setIfInBounds_toArray, List.set_cons_zero, List.set_cons_succ, i64_w, i32_w]
     rfl
    refine pure_ (i := 4) (N := some 48) (v := ?_) (a' := ?_) (bb 11 19) rfl rfl (any_of HT_.out (by kernel_rfl)) (fun _ _ _ h => h) (Or.inl ⟨by rfl, ?_⟩) ?_ ?_
    rotate_left
    ·
     intro w'
     go_simp
     with_reducible rfl
    rotate_left
    ·
     simp only [Act.put, List.setIfInBounds_toArray, List.set_cons_zero, List.set_cons_succ, i64_w, i32_w]
     rfl
    refine take_ (i := 2) (N := some 46) (v := ?_) (a' := ?_) (bb 11 23) rfl rfl (take_ofW HT_.out HW_.out (by kernel_rfl)) (fun _ _ _ h => h) (Or.inl ⟨by rfl, ?_⟩) hHeld ?_ ?_
    rotate_left
    ·
     rintro w' ⟨s0, s1, s2, s3, s4, s5, s6, s7, s8, s9, s10, s11, s12, s13, s14, s15, s16, s17, s18, s19, s20, s21, s22⟩
     go_simp
     with_reducible rfl
    rotate_left
    ·
     simp only [Act.put, List.setIfInBounds_toArray, List.set_cons_zero, List.set_cons_succ, i64_w, i32_w]
     rfl
    refine take_ (i := 5) (N := some 49) (v := ?_) (a' := ?_) (bb 11 55) rfl rfl (take_ofW HT_.out HW_.out (by kernel_rfl)) (fun _ _ _ h => h) (Or.inl ⟨by rfl, ?_⟩) hHeld ?_ ?_
    rotate_left
    ·
     rintro w' ⟨s0, s1, s2, s3, s4, s5, s6, s7, s8, s9, s10, s11, s12, s13, s14, s15, s16, s17, s18, s19, s20, s21, s22⟩
     go_simp
     with_reducible rfl
    rotate_left
    ·
     simp only [Act.put, List.setIfInBounds_toArray, List.set_cons_zero, List.set_cons_succ, i64_w, i32_w]
     rfl
    refine pure_ (i := 6) (N := some 50) (v := ?_) (a' := ?_) (bb 11 119) rfl rfl (any_of HT_.out (by kernel_rfl)) (fun _ _ _ h => h) (Or.inl ⟨by rfl, ?_⟩) ?_ ?_
    rotate_left
    ·
     intro w'
     go_simp
     with_reducible rfl
    rotate_left
    ·
     simp only [Act.put, List.setIfInBounds_toArray, List.set_cons_zero, List.set_cons_succ, i64_w, i32_w]
     rfl
    refine one_ (i := 3) (N := some 47) (bb 11 127) rfl rfl (one_of HT_.out (by kernel_rfl)) (by decide) (fun K hK => ?_)
    refine goes_ Tryd.func57 (by kernel_rfl) rfl #[.int .i64 a0_21] (by rfl) rfl rfl (by (try simp only [List.map_toArray, List.map_cons, List.map_nil]); first | done | rfl | (simp only [List.length_drop, List.length_take]; rfl) | (go_simp; done) | (go_simp; omega)) ?_
    with_reducible refine (tell_num.calls a0_21 t141 _ A42.out (ht := (by first | exact HT.out | exact Go.Proofs.YtcebnaknodghcaaDoor.HItoa.Tab.below HT.out (by repeat (first | (with_reducible first | exact HB.out | apply below_alloc | apply pw_below_drewN | apply below_drew1) | exact HB.out))))).mono ?_
    rintro e w57 ⟨rfl, hb⟩
    refine ⟨_, rfl, ?_⟩
    have n0_ := Aside0.mk (Kd.R_below (by (with_reducible repeat (first | apply Kd.R_alloc | apply Kd.R_drewN | apply Kd.R_drew)); exact HO133.out) hb)
    have n1_ := Aside0.mk (blk_below (g := gb121) (o := .cells #[.int .i64 a0_0, .int .i64 a0_1, .int .i64 a0_2, .int .i64 a0_3, .int .u8 a0_4, .int .u8 a0_5, .int .i64 a0_6, .int .u32 a0_7, .int .u16 a0_8, .int .i64 a0_9, .int .i64 a0_10, .int .i64 a0_11, .int .u64 a0_12, .int .u64 a0_13, .slice A0_14 l0_14.length c0_14, .int .u64 a0_15, .int .i64 a0_16, .int .u8 a0_17, .int .i64 a0_18, .slice A0_19 l0_19.length c0_19, .int .i64 a0_20, .int .i64 a0_21, .slice A0_22 l0_22.length c0_22] 35 (0, 0)) (by (with_reducible repeat (first | refine blk_drewN ?_ _ | refine blk_drew ?_ | refine blk_alloc ?_ _)); exact BK121.out) hb)
    have n2_ := Aside0.mk (below_step (by repeat (first | (with_reducible first | exact HB.out | apply below_alloc | apply pw_below_drewN | apply below_drew1 | refine below_set ?_ GE121.out) | exact HB.out)) hb)
    clear HO133
    clear BK121
    clear HB
    have HO133 := n0_
    have BK121 := n1_
    have HB := n2_
    clear n0_ n1_ n2_
    (try clear hb)
    (try clear hb2)
    (try clear hk)
    (try clear hi)
    refine hK.out _ _ ⟨(blk_cell BK121.out 0).trans rfl, (blk_cell BK121.out 1).trans rfl, (blk_cell BK121.out 2).trans rfl, (blk_cell BK121.out 3).trans rfl, (blk_cell BK121.out 4).trans rfl, (blk_cell BK121.out 5).trans rfl, (blk_cell BK121.out 6).trans rfl, (blk_cell BK121.out 7).trans rfl, (blk_cell BK121.out 8).trans rfl, (blk_cell BK121.out 9).trans rfl, (blk_cell BK121.out 10).trans rfl, (blk_cell BK121.out 11).trans rfl, (blk_cell BK121.out 12).trans rfl, (blk_cell BK121.out 13).trans rfl, (blk_cell BK121.out 14).trans rfl, (blk_cell BK121.out 15).trans rfl, (blk_cell BK121.out 16).trans rfl, (blk_cell BK121.out 17).trans rfl, (blk_cell BK121.out 18).trans rfl, (blk_cell BK121.out 19).trans rfl, (blk_cell BK121.out 20).trans rfl, (blk_cell BK121.out 21).trans rfl, (blk_cell BK121.out 22).trans rfl⟩ (fun hHeld => ?_)
    clear hK K
    refine norm_ (a' := ?_) ?_ ?_
    rotate_left
    ·
     show Act.put _ (some 47) _ = _
     simp only [Act.put, List.setIfInBounds_toArray, List.set_cons_zero, List.set_cons_succ, i64_w, i32_w]
     rfl
    refine one_ (i := 7) (N := some 51) (bb 11 255) rfl rfl (one_of HT_.out (by kernel_rfl)) (by decide) (fun K hK => ?_)
    refine goes_ Tryd.func57 (by kernel_rfl) rfl #[.int .i64 (l0_22.length : Int)] (by rfl) rfl rfl (by (try simp only [List.map_toArray, List.map_cons, List.map_nil]); first | done | rfl | (simp only [List.length_drop, List.length_take]; rfl) | (go_simp; done) | (go_simp; omega)) ?_
    with_reducible refine (tell_num.calls (l0_22.length : Int) t142 _ A43.out (ht := (by first | exact HT.out | exact Go.Proofs.YtcebnaknodghcaaDoor.HItoa.Tab.below HT.out (by repeat (first | (with_reducible first | exact HB.out | apply below_alloc | apply pw_below_drewN | apply below_drew1) | exact HB.out))))).mono ?_
    rintro e w58 ⟨rfl, hb⟩
    refine ⟨_, rfl, ?_⟩
    have n0_ := Aside0.mk (Kd.R_below (by (with_reducible repeat (first | apply Kd.R_alloc | apply Kd.R_drewN | apply Kd.R_drew)); exact HO133.out) hb)
    have n1_ := Aside0.mk (blk_below (g := gb121) (o := .cells #[.int .i64 a0_0, .int .i64 a0_1, .int .i64 a0_2, .int .i64 a0_3, .int .u8 a0_4, .int .u8 a0_5, .int .i64 a0_6, .int .u32 a0_7, .int .u16 a0_8, .int .i64 a0_9, .int .i64 a0_10, .int .i64 a0_11, .int .u64 a0_12, .int .u64 a0_13, .slice A0_14 l0_14.length c0_14, .int .u64 a0_15, .int .i64 a0_16, .int .u8 a0_17, .int .i64 a0_18, .slice A0_19 l0_19.length c0_19, .int .i64 a0_20, .int .i64 a0_21, .slice A0_22 l0_22.length c0_22] 35 (0, 0)) (by (with_reducible repeat (first | refine blk_drewN ?_ _ | refine blk_drew ?_ | refine blk_alloc ?_ _)); exact BK121.out) hb)
    have n2_ := Aside0.mk (below_step (by repeat (first | (with_reducible first | exact HB.out | apply below_alloc | apply pw_below_drewN | apply below_drew1 | refine below_set ?_ GE121.out) | exact HB.out)) hb)
    clear HO133
    clear BK121
    clear HB
    have HO133 := n0_
    have BK121 := n1_
    have HB := n2_
    clear n0_ n1_ n2_
    (try clear hb)
    (try clear hb2)
    (try clear hk)
    (try clear hi)
    refine hK.out _ _ ⟨(blk_cell BK121.out 0).trans rfl, (blk_cell BK121.out 1).trans rfl, (blk_cell BK121.out 2).trans rfl, (blk_cell BK121.out 3).trans rfl, (blk_cell BK121.out 4).trans rfl, (blk_cell BK121.out 5).trans rfl, (blk_cell BK121.out 6).trans rfl, (blk_cell BK121.out 7).trans rfl, (blk_cell BK121.out 8).trans rfl, (blk_cell BK121.out 9).trans rfl, (blk_cell BK121.out 10).trans rfl, (blk_cell BK121.out 11).trans rfl, (blk_cell BK121.out 12).trans rfl, (blk_cell BK121.out 13).trans rfl, (blk_cell BK121.out 14).trans rfl, (blk_cell BK121.out 15).trans rfl, (blk_cell BK121.out 16).trans rfl, (blk_cell BK121.out 17).trans rfl, (blk_cell BK121.out 18).trans rfl, (blk_cell BK121.out 19).trans rfl, (blk_cell BK121.out 20).trans rfl, (blk_cell BK121.out 21).trans rfl, (blk_cell BK121.out 22).trans rfl⟩ (fun hHeld => ?_)
    clear hK K
    refine norm_ (a' := ?_) ?_ ?_
    rotate_left
    ·
     show Act.put _ (some 51) _ = _
     simp only [Act.put, List.setIfInBounds_toArray, List.set_cons_zero, List.set_cons_succ, i64_w, i32_w]
     rfl
    refine one_ (i := 8) (N := some 52) (bb 11 511) rfl rfl (one_of HT_.out (by kernel_rfl)) (by decide) (fun K hK => ?_)
    refine Kd.R_lit_step Kd.string _ 9 ?hg (N := 52) ?hd (xs := ([t134, (⟨#[100, 105, 100]⟩ : ByteArray), t141, (⟨#[98, 121, 116, 101, 115]⟩ : ByteArray), t142] : List ByteArray)) (inner := [.string t134, .string (⟨#[100, 105, 100]⟩ : ByteArray), .string t141, .string (⟨#[98, 121, 116, 101, 115]⟩ : ByteArray), .string t142]) (ok := fun _ => True) (okp := fun _ => True) ?hr ?hp (fun _ hk => hk) trivial (Below.refl _ _) (Nat.le_refl _) (by simp) ?_; (case hd => rfl); (case hg => rfl); (case hr => first | (go_simp; done) | (go_simp; rfl)); (case hp => exact (Reps.one (show Kd.M Kd.string _ _ _ t134 [.string t134] from rfl) (Reps.one (show Kd.M Kd.string _ _ _ (⟨#[100, 105, 100]⟩ : ByteArray) [.string (⟨#[100, 105, 100]⟩ : ByteArray)] from rfl) (Reps.one (show Kd.M Kd.string _ _ _ t141 [.string t141] from rfl) (Reps.one (show Kd.M Kd.string _ _ _ (⟨#[98, 121, 116, 101, 115]⟩ : ByteArray) [.string (⟨#[98, 121, 116, 101, 115]⟩ : ByteArray)] from rfl) (Reps.one (show Kd.M Kd.string _ _ _ t142 [.string t142] from rfl) (Reps.none _ _)))))))
    intro v144 w59 ho60 hb hg_ hnew_
    clear hg_ hnew_
    (first | rw [← Ny143.out] at ho60 | (simp only [Int.reduceToNat] at ho60; rw [← Ny143.out] at ho60))
    have n0_ := Aside0.mk (Kd.R_elder' (by (with_reducible repeat (first | apply Kd.R_alloc | apply Kd.R_drewN | apply Kd.R_drew)); exact HO133.out) (Kd.R_base ho60) hb)
    have n1_ := Aside0.mk (Kd.R_lower (Kd.R_new' ho60 (Kd.R_lt (by (with_reducible repeat (first | apply Kd.R_alloc | apply Kd.R_drewN | apply Kd.R_drew)); exact HO133.out))) (below_size (by repeat (first | (with_reducible first | exact HB.out | apply below_alloc | apply pw_below_drewN | apply below_drew1 | refine below_set ?_ GE121.out) | exact HB.out))))
    have n2_ := Aside0.mk (blk_below (g := gb121) (o := .cells #[.int .i64 a0_0, .int .i64 a0_1, .int .i64 a0_2, .int .i64 a0_3, .int .u8 a0_4, .int .u8 a0_5, .int .i64 a0_6, .int .u32 a0_7, .int .u16 a0_8, .int .i64 a0_9, .int .i64 a0_10, .int .i64 a0_11, .int .u64 a0_12, .int .u64 a0_13, .slice A0_14 l0_14.length c0_14, .int .u64 a0_15, .int .i64 a0_16, .int .u8 a0_17, .int .i64 a0_18, .slice A0_19 l0_19.length c0_19, .int .i64 a0_20, .int .i64 a0_21, .slice A0_22 l0_22.length c0_22] 35 (0, 0)) (by (with_reducible repeat (first | refine blk_drewN ?_ _ | refine blk_drew ?_ | refine blk_alloc ?_ _)); exact BK121.out) hb)
    have n3_ := Aside0.mk (below_step (by repeat (first | (with_reducible first | exact HB.out | apply below_alloc | apply pw_below_drewN | apply below_drew1 | refine below_set ?_ GE121.out) | exact HB.out)) hb)
    clear HO133
    clear BK121
    clear HB
    have HO133 := n0_
    have HO145 := n1_
    have BK121 := n2_
    have HB := n3_
    clear n0_ n1_ n2_ n3_
    clear hb ho60
    obtain ⟨Ao61, co61, eo61⟩ := Kd.R_slice HO145.out
    (first | subst eo61 | (injection eo61 with f1_ f2_ f3_; have f4_ := f1_.symm; have f5_ := f3_.symm; clear f1_ f2_ f3_; subst f4_; subst f5_))
    refine hK.out _ _ ⟨(blk_cell BK121.out 0).trans rfl, (blk_cell BK121.out 1).trans rfl, (blk_cell BK121.out 2).trans rfl, (blk_cell BK121.out 3).trans rfl, (blk_cell BK121.out 4).trans rfl, (blk_cell BK121.out 5).trans rfl, (blk_cell BK121.out 6).trans rfl, (blk_cell BK121.out 7).trans rfl, (blk_cell BK121.out 8).trans rfl, (blk_cell BK121.out 9).trans rfl, (blk_cell BK121.out 10).trans rfl, (blk_cell BK121.out 11).trans rfl, (blk_cell BK121.out 12).trans rfl, (blk_cell BK121.out 13).trans rfl, (blk_cell BK121.out 14).trans rfl, (blk_cell BK121.out 15).trans rfl, (blk_cell BK121.out 16).trans rfl, (blk_cell BK121.out 17).trans rfl, (blk_cell BK121.out 18).trans rfl, (blk_cell BK121.out 19).trans rfl, (blk_cell BK121.out 20).trans rfl, (blk_cell BK121.out 21).trans rfl, (blk_cell BK121.out 22).trans rfl⟩ (fun hHeld => ?_)
    clear hK K
    refine norm_ (a' := ?_) ?_ ?_
    rotate_left
    ·
     show Act.put _ (some 52) _ = _
     simp only [Act.put, List.setIfInBounds_toArray, List.set_cons_zero, List.set_cons_succ, i64_w, i32_w]
     rfl
    refine one_ (i := 9) (N := some 53) (bb 11 1023) rfl rfl (one_of HT_.out (by kernel_rfl)) (by decide) (fun K hK => ?_)
    refine goes_ Tryd.func56 (by kernel_rfl) rfl #[.slice Ao61 y143.length co61] (by rfl) rfl rfl (by (try simp only [List.map_toArray, List.map_cons, List.map_nil]); first | done | rfl | (simp only [List.length_drop, List.length_take]; rfl) | (go_simp; done) | (go_simp; omega)) ?_
    with_reducible refine (tell_words.calls _ _ y143 t146 _ ?side1 ?side2 A44.out).mono ?_
    (case side1 => repeat (first | exact (Kd.R_reads' HO145.out).2.2 | (with_reducible refine Kd.C_alloc ?_ _) | (with_reducible refine Kd.C_drewN ?_ _) | (with_reducible refine Kd.C_drew ?_)))
    (case side2 => exact (Kd.R_reads' HO145.out).2.1)
    rintro e w62 ⟨rfl, hb⟩
    refine ⟨_, rfl, ?_⟩
    have n0_ := Aside0.mk (Kd.R_below (by (with_reducible repeat (first | apply Kd.R_alloc | apply Kd.R_drewN | apply Kd.R_drew)); exact HO133.out) hb)
    have n1_ := Aside0.mk (Kd.R_below (by (with_reducible repeat (first | apply Kd.R_alloc | apply Kd.R_drewN | apply Kd.R_drew)); exact HO145.out) hb)
    have n2_ := Aside0.mk (blk_below (g := gb121) (o := .cells #[.int .i64 a0_0, .int .i64 a0_1, .int .i64 a0_2, .int .i64 a0_3, .int .u8 a0_4, .int .u8 a0_5, .int .i64 a0_6, .int .u32 a0_7, .int .u16 a0_8, .int .i64 a0_9, .int .i64 a0_10, .int .i64 a0_11, .int .u64 a0_12, .int .u64 a0_13, .slice A0_14 l0_14.length c0_14, .int .u64 a0_15, .int .i64 a0_16, .int .u8 a0_17, .int .i64 a0_18, .slice A0_19 l0_19.length c0_19, .int .i64 a0_20, .int .i64 a0_21, .slice A0_22 l0_22.length c0_22] 35 (0, 0)) (by (with_reducible repeat (first | refine blk_drewN ?_ _ | refine blk_drew ?_ | refine blk_alloc ?_ _)); exact BK121.out) hb)
    have n3_ := Aside0.mk (below_step (by repeat (first | (with_reducible first | exact HB.out | apply below_alloc | apply pw_below_drewN | apply below_drew1 | refine below_set ?_ GE121.out) | exact HB.out)) hb)
    clear HO133
    clear HO145
    clear BK121
    clear HB
    have HO133 := n0_
    have HO145 := n1_
    have BK121 := n2_
    have HB := n3_
    clear n0_ n1_ n2_ n3_
    (try clear hb)
    (try clear hb2)
    (try clear hk)
    (try clear hi)
    refine hK.out _ _ ⟨(blk_cell BK121.out 0).trans rfl, (blk_cell BK121.out 1).trans rfl, (blk_cell BK121.out 2).trans rfl, (blk_cell BK121.out 3).trans rfl, (blk_cell BK121.out 4).trans rfl, (blk_cell BK121.out 5).trans rfl, (blk_cell BK121.out 6).trans rfl, (blk_cell BK121.out 7).trans rfl, (blk_cell BK121.out 8).trans rfl, (blk_cell BK121.out 9).trans rfl, (blk_cell BK121.out 10).trans rfl, (blk_cell BK121.out 11).trans rfl, (blk_cell BK121.out 12).trans rfl, (blk_cell BK121.out 13).trans rfl, (blk_cell BK121.out 14).trans rfl, (blk_cell BK121.out 15).trans rfl, (blk_cell BK121.out 16).trans rfl, (blk_cell BK121.out 17).trans rfl, (blk_cell BK121.out 18).trans rfl, (blk_cell BK121.out 19).trans rfl, (blk_cell BK121.out 20).trans rfl, (blk_cell BK121.out 21).trans rfl, (blk_cell BK121.out 22).trans rfl⟩ (fun hHeld => ?_)
    clear hK K
    refine norm_ (a' := ?_) ?_ ?_
    rotate_left
    ·
     show Act.put _ (some 53) _ = _
     simp only [Act.put, List.setIfInBounds_toArray, List.set_cons_zero, List.set_cons_succ, i64_w, i32_w]
     rfl
    refine pure_ (i := 10) (N := some 2) (v := ?_) (a' := ?_) (bb 11 2047) rfl rfl (any_of HT_.out (by kernel_rfl)) (fun _ _ _ h => h) (Or.inl ⟨by rfl, ?_⟩) ?_ ?_
    rotate_left
    ·
     intro w'
     go_simp
     with_reducible rfl
    rotate_left
    ·
     simp only [Act.put, List.setIfInBounds_toArray, List.set_cons_zero, List.set_cons_succ, i64_w, i32_w]
     rfl
    refine done_ (done_of HT_.out (by kernel_rfl)) ?_
    try go_wp2
    go_ret
    exact ⟨by first | rfl | (simp [errW_none, errW_some] <;> rfl) | (simp [*, errW_none, errW_some] <;> rfl), by repeat (first | (with_reducible first | exact HB.out | apply below_alloc | apply pw_below_drewN | apply below_drew1 | refine below_set ?_ GE121.out) | exact HB.out)⟩
   ·
    rw [if_neg c41] at H
    have c41b0 : (a0_0 == 1) = false := beq_eq_false_iff_ne.mpr c41
    have c41b1 : (a0_0 != 1) = true := bne_iff_ne.mpr c41
    by_cases c63 : a0_0 = 2
    ·
     rw [if_pos c63] at H
     have c63b0 : (a0_0 == 2) = true := beq_iff_eq.mpr c63
     have c63b1 : (a0_0 != 2) = false := bne_eq_false_iff_eq.mpr c63
     clear c63
     replace H := Option.bind_eq_some_iff.mp H
     obtain ⟨t147, A640, H⟩ := H
     replace H : ((tell_user.f a0_15).bind fun t148 => ((tell_words.f (([t134, (⟨#[100, 111, 110, 101]⟩ : ByteArray), t147, t148] : List ByteArray))).bind fun t152 => (if (Go.bits .and .u8 a0_17 1) = 0 then (tell_Mark.j0 k t152 a0_0 a0_1 a0_2 a0_3 a0_4 a0_5 a0_6 a0_7 a0_8 a0_9 a0_10 a0_11 a0_12 a0_13 l0_14 a0_15 a0_16 a0_17 a0_18 l0_19 a0_20 a0_21 l0_22) else ((tell_words.f (([t152, (⟨#[109, 111, 114, 101]⟩ : ByteArray)] : List ByteArray))).bind fun t156 => (tell_Mark.j0 k t156 a0_0 a0_1 a0_2 a0_3 a0_4 a0_5 a0_6 a0_7 a0_8 a0_9 a0_10 a0_11 a0_12 a0_13 l0_14 a0_15 a0_16 a0_17 a0_18 l0_19 a0_20 a0_21 l0_22))))) = some r := H
     have A64 := Aside0.mk A640
     clear A640
     replace H := Option.bind_eq_some_iff.mp H
     obtain ⟨t148, A650, H⟩ := H
     replace H : ((tell_words.f (([t134, (⟨#[100, 111, 110, 101]⟩ : ByteArray), t147, t148] : List ByteArray))).bind fun t152 => (if (Go.bits .and .u8 a0_17 1) = 0 then (tell_Mark.j0 k t152 a0_0 a0_1 a0_2 a0_3 a0_4 a0_5 a0_6 a0_7 a0_8 a0_9 a0_10 a0_11 a0_12 a0_13 l0_14 a0_15 a0_16 a0_17 a0_18 l0_19 a0_20 a0_21 l0_22) else ((tell_words.f (([t152, (⟨#[109, 111, 114, 101]⟩ : ByteArray)] : List ByteArray))).bind fun t156 => (tell_Mark.j0 k t156 a0_0 a0_1 a0_2 a0_3 a0_4 a0_5 a0_6 a0_7 a0_8 a0_9 a0_10 a0_11 a0_12 a0_13 l0_14 a0_15 a0_16 a0_17 a0_18 l0_19 a0_20 a0_21 l0_22)))) = some r := H
     have A65 := Aside0.mk A650
     clear A650
     obtain ⟨y149, hy149⟩ : ∃ y_ : List ByteArray, y_ = (([t134, (⟨#[100, 111, 110, 101]⟩ : ByteArray), t147, t148] : List ByteArray)) := ⟨_, rfl⟩
     replace H : ((tell_words.f y149).bind fun t152 => (if (Go.bits .and .u8 a0_17 1) = 0 then (tell_Mark.j0 k t152 a0_0 a0_1 a0_2 a0_3 a0_4 a0_5 a0_6 a0_7 a0_8 a0_9 a0_10 a0_11 a0_12 a0_13 l0_14 a0_15 a0_16 a0_17 a0_18 l0_19 a0_20 a0_21 l0_22) else ((tell_words.f (([t152, (⟨#[109, 111, 114, 101]⟩ : ByteArray)] : List ByteArray))).bind fun t156 => (tell_Mark.j0 k t156 a0_0 a0_1 a0_2 a0_3 a0_4 a0_5 a0_6 a0_7 a0_8 a0_9 a0_10 a0_11 a0_12 a0_13 l0_14 a0_15 a0_16 a0_17 a0_18 l0_19 a0_20 a0_21 l0_22)))) = some r := by first | (rw [hy149]; with_reducible exact H) | (have H2_ := (Option.bind_some _ _).symm.trans H; rw [hy149]; with_reducible exact H2_) | (have H2_ := (Option.bind_some _ _).symm.trans H; with_reducible exact H2_) | with_reducible exact H | (rw [hy149]; exact H) | exact H
     have Ny149 := Aside0.mk hy149
     clear hy149
     replace H := Option.bind_eq_some_iff.mp H
     obtain ⟨t152, A660, H⟩ := H
     replace H : (if (Go.bits .and .u8 a0_17 1) = 0 then (tell_Mark.j0 k t152 a0_0 a0_1 a0_2 a0_3 a0_4 a0_5 a0_6 a0_7 a0_8 a0_9 a0_10 a0_11 a0_12 a0_13 l0_14 a0_15 a0_16 a0_17 a0_18 l0_19 a0_20 a0_21 l0_22) else ((tell_words.f (([t152, (⟨#[109, 111, 114, 101]⟩ : ByteArray)] : List ByteArray))).bind fun t156 => (tell_Mark.j0 k t156 a0_0 a0_1 a0_2 a0_3 a0_4 a0_5 a0_6 a0_7 a0_8 a0_9 a0_10 a0_11 a0_12 a0_13 l0_14 a0_15 a0_16 a0_17 a0_18 l0_19 a0_20 a0_21 l0_22))) = some r := H
     have A66 := Aside0.mk A660
     clear A660
     have HC67 := Aside0.mk H
     clear H
     go_enter Tryd.func15, Tryd.ntmps15
     try go_wp2_with (first | ((with_reducible refine gate_dst (N := 1) rfl ?_); refine box_event ?hg (N := 1) ?hd (cs := #[.int .i64 a0_0, .int .i64 a0_1, .int .i64 a0_2, .int .i64 a0_3, .int .u8 a0_4, .int .u8 a0_5, .int .i64 a0_6, .int .u32 a0_7, .int .u16 a0_8, .int .i64 a0_9, .int .i64 a0_10, .int .i64 a0_11, .int .u64 a0_12, .int .u64 a0_13, .slice A0_14 l0_14.length c0_14, .int .u64 a0_15, .int .i64 a0_16, .int .u8 a0_17, .int .i64 a0_18, .slice A0_19 l0_19.length c0_19, .int .i64 a0_20, .int .i64 a0_21, .slice A0_22 l0_22.length c0_22]) (t := 35) ?hr ?_; (case hd => rfl); (case hg => rfl); (case hr => first | (go_simp; done) | (go_simp; rfl)); intro gb121 hg w68 hbox hb; have n0_ := Aside0.mk (below_step (by repeat (first | (with_reducible first | exact HB.out | apply below_alloc | apply pw_below_drewN | apply below_drew1) | exact HB.out)) hb); have n1_ := Aside0.mk (hbox); have n2_ := Aside0.mk ((by rw [hg]; exact (below_size (by repeat (first | (with_reducible first | exact HB.out | apply below_alloc | apply pw_below_drewN | apply below_drew1) | exact HB.out))) : w.heap.size ≤ gb121)); have n3_ := Aside0.mk ((by rw [hg]; exact (below_size (by repeat (first | (with_reducible first | exact HB.out | apply below_alloc | apply pw_below_drewN | apply below_drew1) | exact HB.out))) : w.heap.size ≤ gb121)); clear HB; have HB := n0_; have BK121 := n1_; have GW121 := n2_; have GE121 := n3_; clear n0_ n1_ n2_ n3_; clear hb hbox hg; have hcz69_0 : w68.cell? ⟨gb121, 0, none⟩ = some (.int .i64 a0_0) := (blk_cell BK121.out 0).trans rfl; have hcz69_1 : w68.cell? ⟨gb121, 1, none⟩ = some (.int .i64 a0_1) := (blk_cell BK121.out 1).trans rfl; have hcz69_2 : w68.cell? ⟨gb121, 2, none⟩ = some (.int .i64 a0_2) := (blk_cell BK121.out 2).trans rfl; have hcz69_3 : w68.cell? ⟨gb121, 3, none⟩ = some (.int .i64 a0_3) := (blk_cell BK121.out 3).trans rfl; have hcz69_4 : w68.cell? ⟨gb121, 4, none⟩ = some (.int .u8 a0_4) := (blk_cell BK121.out 4).trans rfl; have hcz69_5 : w68.cell? ⟨gb121, 5, none⟩ = some (.int .u8 a0_5) := (blk_cell BK121.out 5).trans rfl; have hcz69_6 : w68.cell? ⟨gb121, 6, none⟩ = some (.int .i64 a0_6) := (blk_cell BK121.out 6).trans rfl; have hcz69_7 : w68.cell? ⟨gb121, 7, none⟩ = some (.int .u32 a0_7) := (blk_cell BK121.out 7).trans rfl; have hcz69_8 : w68.cell? ⟨gb121, 8, none⟩ = some (.int .u16 a0_8) := (blk_cell BK121.out 8).trans rfl; have hcz69_9 : w68.cell? ⟨gb121, 9, none⟩ = some (.int .i64 a0_9) := (blk_cell BK121.out 9).trans rfl; have hcz69_10 : w68.cell? ⟨gb121, 10, none⟩ = some (.int .i64 a0_10) := (blk_cell BK121.out 10).trans rfl; have hcz69_11 : w68.cell? ⟨gb121, 11, none⟩ = some (.int .i64 a0_11) := (blk_cell BK121.out 11).trans rfl; have hcz69_12 : w68.cell? ⟨gb121, 12, none⟩ = some (.int .u64 a0_12) := (blk_cell BK121.out 12).trans rfl; have hcz69_13 : w68.cell? ⟨gb121, 13, none⟩ = some (.int .u64 a0_13) := (blk_cell BK121.out 13).trans rfl; have hcz69_14 : w68.cell? ⟨gb121, 14, none⟩ = some (.slice A0_14 l0_14.length c0_14) := (blk_cell BK121.out 14).trans rfl; have hcz69_15 : w68.cell? ⟨gb121, 15, none⟩ = some (.int .u64 a0_15) := (blk_cell BK121.out 15).trans rfl; have hcz69_16 : w68.cell? ⟨gb121, 16, none⟩ = some (.int .i64 a0_16) := (blk_cell BK121.out 16).trans rfl; have hcz69_17 : w68.cell? ⟨gb121, 17, none⟩ = some (.int .u8 a0_17) := (blk_cell BK121.out 17).trans rfl; have hcz69_18 : w68.cell? ⟨gb121, 18, none⟩ = some (.int .i64 a0_18) := (blk_cell BK121.out 18).trans rfl; have hcz69_19 : w68.cell? ⟨gb121, 19, none⟩ = some (.slice A0_19 l0_19.length c0_19) := (blk_cell BK121.out 19).trans rfl; have hcz69_20 : w68.cell? ⟨gb121, 20, none⟩ = some (.int .i64 a0_20) := (blk_cell BK121.out 20).trans rfl; have hcz69_21 : w68.cell? ⟨gb121, 21, none⟩ = some (.int .i64 a0_21) := (blk_cell BK121.out 21).trans rfl; have hcz69_22 : w68.cell? ⟨gb121, 22, none⟩ = some (.slice A0_22 l0_22.length c0_22) := (blk_cell BK121.out 22).trans rfl; have hfz69_0 := blk_frozen BK121.out 0; have hfz69_1 := blk_frozen BK121.out 1; have hfz69_2 := blk_frozen BK121.out 2; have hfz69_3 := blk_frozen BK121.out 3; have hfz69_4 := blk_frozen BK121.out 4; have hfz69_5 := blk_frozen BK121.out 5; have hfz69_6 := blk_frozen BK121.out 6; have hfz69_7 := blk_frozen BK121.out 7; have hfz69_8 := blk_frozen BK121.out 8; have hfz69_9 := blk_frozen BK121.out 9; have hfz69_10 := blk_frozen BK121.out 10; have hfz69_11 := blk_frozen BK121.out 11; have hfz69_12 := blk_frozen BK121.out 12; have hfz69_13 := blk_frozen BK121.out 13; have hfz69_14 := blk_frozen BK121.out 14; have hfz69_15 := blk_frozen BK121.out 15; have hfz69_16 := blk_frozen BK121.out 16; have hfz69_17 := blk_frozen BK121.out 17; have hfz69_18 := blk_frozen BK121.out 18; have hfz69_19 := blk_frozen BK121.out 19; have hfz69_20 := blk_frozen BK121.out 20; have hfz69_21 := blk_frozen BK121.out 21; have hfz69_22 := blk_frozen BK121.out 22))
     have n0_ := Aside0.mk (blk_drew BK121.out)
     have n1_ := Aside0.mk (below_drew1 HB.out)
     clear BK121
     clear HB
     have BK121 := n0_
     have HB := n1_
     clear n0_ n1_
     refine start_ (n := 12) (S := fun w' => w'.cell? ⟨gb121, 0, none⟩ = some (.int .i64 a0_0) ∧ w'.cell? ⟨gb121, 1, none⟩ = some (.int .i64 a0_1) ∧ w'.cell? ⟨gb121, 2, none⟩ = some (.int .i64 a0_2) ∧ w'.cell? ⟨gb121, 3, none⟩ = some (.int .i64 a0_3) ∧ w'.cell? ⟨gb121, 4, none⟩ = some (.int .u8 a0_4) ∧ w'.cell? ⟨gb121, 5, none⟩ = some (.int .u8 a0_5) ∧ w'.cell? ⟨gb121, 6, none⟩ = some (.int .i64 a0_6) ∧ w'.cell? ⟨gb121, 7, none⟩ = some (.int .u32 a0_7) ∧ w'.cell? ⟨gb121, 8, none⟩ = some (.int .u16 a0_8) ∧ w'.cell? ⟨gb121, 9, none⟩ = some (.int .i64 a0_9) ∧ w'.cell? ⟨gb121, 10, none⟩ = some (.int .i64 a0_10) ∧ w'.cell? ⟨gb121, 11, none⟩ = some (.int .i64 a0_11) ∧ w'.cell? ⟨gb121, 12, none⟩ = some (.int .u64 a0_12) ∧ w'.cell? ⟨gb121, 13, none⟩ = some (.int .u64 a0_13) ∧ w'.cell? ⟨gb121, 14, none⟩ = some (.slice A0_14 l0_14.length c0_14) ∧ w'.cell? ⟨gb121, 15, none⟩ = some (.int .u64 a0_15) ∧ w'.cell? ⟨gb121, 16, none⟩ = some (.int .i64 a0_16) ∧ w'.cell? ⟨gb121, 17, none⟩ = some (.int .u8 a0_17) ∧ w'.cell? ⟨gb121, 18, none⟩ = some (.int .i64 a0_18) ∧ w'.cell? ⟨gb121, 19, none⟩ = some (.slice A0_19 l0_19.length c0_19) ∧ w'.cell? ⟨gb121, 20, none⟩ = some (.int .i64 a0_20) ∧ w'.cell? ⟨gb121, 21, none⟩ = some (.int .i64 a0_21) ∧ w'.cell? ⟨gb121, 22, none⟩ = some (.slice A0_22 l0_22.length c0_22)) (ds := []) (bb 12 0) (by kernel_rfl) rfl rfl ⟨(blk_cell BK121.out 0).trans rfl, (blk_cell BK121.out 1).trans rfl, (blk_cell BK121.out 2).trans rfl, (blk_cell BK121.out 3).trans rfl, (blk_cell BK121.out 4).trans rfl, (blk_cell BK121.out 5).trans rfl, (blk_cell BK121.out 6).trans rfl, (blk_cell BK121.out 7).trans rfl, (blk_cell BK121.out 8).trans rfl, (blk_cell BK121.out 9).trans rfl, (blk_cell BK121.out 10).trans rfl, (blk_cell BK121.out 11).trans rfl, (blk_cell BK121.out 12).trans rfl, (blk_cell BK121.out 13).trans rfl, (blk_cell BK121.out 14).trans rfl, (blk_cell BK121.out 15).trans rfl, (blk_cell BK121.out 16).trans rfl, (blk_cell BK121.out 17).trans rfl, (blk_cell BK121.out 18).trans rfl, (blk_cell BK121.out 19).trans rfl, (blk_cell BK121.out 20).trans rfl, (blk_cell BK121.out 21).trans rfl, (blk_cell BK121.out 22).trans rfl⟩ (fun hHeld => ?_); refine with_tabW tell_Mark.tab3 tell_Mark.bits3 (fun HT_ HW_ => ?_)
     generalize w68.drew = w70 at BK121 HB hHeld ⊢
     refine pure_ (i := 0) (N := some 15) (v := ?_) (a' := ?_) (bb 12 1) rfl rfl (any_of HT_.out (by kernel_rfl)) (fun _ _ _ h => h) (Or.inl ⟨by rfl, ?_⟩) ?_ ?_
     rotate_left
     ·
      intro w'
      go_simp
      with_reducible rfl
     rotate_left
     ·
      simp only [Act.put, List.setIfInBounds_toArray, List.set_cons_zero, List.set_cons_succ, i64_w, i32_w]
      rfl
     refine pure_ (i := 3) (N := some 18) (v := ?_) (a' := ?_) (bb 12 9) rfl rfl (any_of HT_.out (by kernel_rfl)) (fun _ _ _ h => h) (Or.inl ⟨by rfl, ?_⟩) ?_ ?_
     rotate_left
     ·
      intro w'
      go_simp
      with_reducible rfl
     rotate_left
     ·
      simp only [Act.put, List.setIfInBounds_toArray, List.set_cons_zero, List.set_cons_succ, i64_w, i32_w]
      rfl
     refine pure_ (i := 6) (N := some 21) (v := ?_) (a' := ?_) (bb 12 73) rfl rfl (any_of HT_.out (by kernel_rfl)) (fun _ _ _ h => h) (Or.inl ⟨by rfl, ?_⟩) ?_ ?_
     rotate_left
     ·
      intro w'
      go_simp
      with_reducible rfl
     rotate_left
     ·
      simp only [Act.put, List.setIfInBounds_toArray, List.set_cons_zero, List.set_cons_succ, i64_w, i32_w]
      rfl
     refine take_ (i := 1) (N := some 16) (v := ?_) (a' := ?_) (bb 12 75) rfl rfl (take_ofW HT_.out HW_.out (by kernel_rfl)) (fun _ _ _ h => h) (Or.inl ⟨by rfl, ?_⟩) hHeld ?_ ?_
     rotate_left
     ·
      rintro w' ⟨s0, s1, s2, s3, s4, s5, s6, s7, s8, s9, s10, s11, s12, s13, s14, s15, s16, s17, s18, s19, s20, s21, s22⟩
      go_simp
      with_reducible rfl
     rotate_left
     ·
      simp only [Act.put, List.setIfInBounds_toArray, List.set_cons_zero, List.set_cons_succ, i64_w, i32_w]
      rfl
     refine take_ (i := 4) (N := some 19) (v := ?_) (a' := ?_) (bb 12 91) rfl rfl (take_ofW HT_.out HW_.out (by kernel_rfl)) (fun _ _ _ h => h) (Or.inl ⟨by rfl, ?_⟩) hHeld ?_ ?_
     rotate_left
     ·
      rintro w' ⟨s0, s1, s2, s3, s4, s5, s6, s7, s8, s9, s10, s11, s12, s13, s14, s15, s16, s17, s18, s19, s20, s21, s22⟩
      go_simp
      with_reducible rfl
     rotate_left
     ·
      simp only [Act.put, List.setIfInBounds_toArray, List.set_cons_zero, List.set_cons_succ, i64_w, i32_w]
      rfl
     refine take_ (i := 7) (N := some 22) (v := ?_) (a' := ?_) (bb 12 219) rfl rfl (take_ofW HT_.out HW_.out (by kernel_rfl)) (fun _ _ _ h => h) (Or.inl ⟨by rfl, ?_⟩) hHeld ?_ ?_
     rotate_left
     ·
      rintro w' ⟨s0, s1, s2, s3, s4, s5, s6, s7, s8, s9, s10, s11, s12, s13, s14, s15, s16, s17, s18, s19, s20, s21, s22⟩
      go_simp
      with_reducible rfl
     rotate_left
     ·
      simp only [Act.put, List.setIfInBounds_toArray, List.set_cons_zero, List.set_cons_succ, i64_w, i32_w]
      rfl
     refine one_ (i := 2) (N := some 17) (bb 12 223) rfl rfl (one_of HT_.out (by kernel_rfl)) (by decide) (fun K hK => ?_)
     refine goes_ Tryd.func57 (by kernel_rfl) rfl #[.int .i64 a0_1] (by rfl) rfl rfl (by (try simp only [List.map_toArray, List.map_cons, List.map_nil]); first | done | rfl | (simp only [List.length_drop, List.length_take]; rfl) | (go_simp; done) | (go_simp; omega)) ?_
     with_reducible refine (tell_num.calls a0_1 t128 _ A15.out (ht := (by first | exact HT.out | exact Go.Proofs.YtcebnaknodghcaaDoor.HItoa.Tab.below HT.out (by repeat (first | (with_reducible first | exact HB.out | apply below_alloc | apply pw_below_drewN | apply below_drew1) | exact HB.out))))).mono ?_
     rintro e w71 ⟨rfl, hb⟩
     refine ⟨_, rfl, ?_⟩
     have n0_ := Aside0.mk (blk_below (g := gb121) (o := .cells #[.int .i64 a0_0, .int .i64 a0_1, .int .i64 a0_2, .int .i64 a0_3, .int .u8 a0_4, .int .u8 a0_5, .int .i64 a0_6, .int .u32 a0_7, .int .u16 a0_8, .int .i64 a0_9, .int .i64 a0_10, .int .i64 a0_11, .int .u64 a0_12, .int .u64 a0_13, .slice A0_14 l0_14.length c0_14, .int .u64 a0_15, .int .i64 a0_16, .int .u8 a0_17, .int .i64 a0_18, .slice A0_19 l0_19.length c0_19, .int .i64 a0_20, .int .i64 a0_21, .slice A0_22 l0_22.length c0_22] 35 (0, 0)) (by (with_reducible repeat (first | refine blk_drewN ?_ _ | refine blk_drew ?_ | refine blk_alloc ?_ _)); exact BK121.out) hb)
     have n1_ := Aside0.mk (below_step (by repeat (first | (with_reducible first | exact HB.out | apply below_alloc | apply pw_below_drewN | apply below_drew1 | refine below_set ?_ GE121.out) | exact HB.out)) hb)
     clear BK121
     clear HB
     have BK121 := n0_
     have HB := n1_
     clear n0_ n1_
     (try clear hb)
     (try clear hb2)
     (try clear hk)
     (try clear hi)
     refine hK.out _ _ ⟨(blk_cell BK121.out 0).trans rfl, (blk_cell BK121.out 1).trans rfl, (blk_cell BK121.out 2).trans rfl, (blk_cell BK121.out 3).trans rfl, (blk_cell BK121.out 4).trans rfl, (blk_cell BK121.out 5).trans rfl, (blk_cell BK121.out 6).trans rfl, (blk_cell BK121.out 7).trans rfl, (blk_cell BK121.out 8).trans rfl, (blk_cell BK121.out 9).trans rfl, (blk_cell BK121.out 10).trans rfl, (blk_cell BK121.out 11).trans rfl, (blk_cell BK121.out 12).trans rfl, (blk_cell BK121.out 13).trans rfl, (blk_cell BK121.out 14).trans rfl, (blk_cell BK121.out 15).trans rfl, (blk_cell BK121.out 16).trans rfl, (blk_cell BK121.out 17).trans rfl, (blk_cell BK121.out 18).trans rfl, (blk_cell BK121.out 19).trans rfl, (blk_cell BK121.out 20).trans rfl, (blk_cell BK121.out 21).trans rfl, (blk_cell BK121.out 22).trans rfl⟩ (fun hHeld => ?_)
     clear hK K
     refine norm_ (a' := ?_) ?_ ?_
     rotate_left
     ·
      show Act.put _ (some 17) _ = _
      simp only [Act.put, List.setIfInBounds_toArray, List.set_cons_zero, List.set_cons_succ, i64_w, i32_w]
      rfl
     refine one_ (i := 5) (N := some 20) (bb 12 255) rfl rfl (one_of HT_.out (by kernel_rfl)) (by decide) (fun K hK => ?_)
     refine goes_ Tryd.func57 (by kernel_rfl) rfl #[.int .i64 a0_2] (by rfl) rfl rfl (by (try simp only [List.map_toArray, List.map_cons, List.map_nil]); first | done | rfl | (simp only [List.length_drop, List.length_take]; rfl) | (go_simp; done) | (go_simp; omega)) ?_
     with_reducible refine (tell_num.calls a0_2 t129 _ A16.out (ht := (by first | exact HT.out | exact Go.Proofs.YtcebnaknodghcaaDoor.HItoa.Tab.below HT.out (by repeat (first | (with_reducible first | exact HB.out | apply below_alloc | apply pw_below_drewN | apply below_drew1) | exact HB.out))))).mono ?_
     rintro e w72 ⟨rfl, hb⟩
     refine ⟨_, rfl, ?_⟩
     have n0_ := Aside0.mk (blk_below (g := gb121) (o := .cells #[.int .i64 a0_0, .int .i64 a0_1, .int .i64 a0_2, .int .i64 a0_3, .int .u8 a0_4, .int .u8 a0_5, .int .i64 a0_6, .int .u32 a0_7, .int .u16 a0_8, .int .i64 a0_9, .int .i64 a0_10, .int .i64 a0_11, .int .u64 a0_12, .int .u64 a0_13, .slice A0_14 l0_14.length c0_14, .int .u64 a0_15, .int .i64 a0_16, .int .u8 a0_17, .int .i64 a0_18, .slice A0_19 l0_19.length c0_19, .int .i64 a0_20, .int .i64 a0_21, .slice A0_22 l0_22.length c0_22] 35 (0, 0)) (by (with_reducible repeat (first | refine blk_drewN ?_ _ | refine blk_drew ?_ | refine blk_alloc ?_ _)); exact BK121.out) hb)
     have n1_ := Aside0.mk (below_step (by repeat (first | (with_reducible first | exact HB.out | apply below_alloc | apply pw_below_drewN | apply below_drew1 | refine below_set ?_ GE121.out) | exact HB.out)) hb)
     clear BK121
     clear HB
     have BK121 := n0_
     have HB := n1_
     clear n0_ n1_
     (try clear hb)
     (try clear hb2)
     (try clear hk)
     (try clear hi)
     refine hK.out _ _ ⟨(blk_cell BK121.out 0).trans rfl, (blk_cell BK121.out 1).trans rfl, (blk_cell BK121.out 2).trans rfl, (blk_cell BK121.out 3).trans rfl, (blk_cell BK121.out 4).trans rfl, (blk_cell BK121.out 5).trans rfl, (blk_cell BK121.out 6).trans rfl, (blk_cell BK121.out 7).trans rfl, (blk_cell BK121.out 8).trans rfl, (blk_cell BK121.out 9).trans rfl, (blk_cell BK121.out 10).trans rfl, (blk_cell BK121.out 11).trans rfl, (blk_cell BK121.out 12).trans rfl, (blk_cell BK121.out 13).trans rfl, (blk_cell BK121.out 14).trans rfl, (blk_cell BK121.out 15).trans rfl, (blk_cell BK121.out 16).trans rfl, (blk_cell BK121.out 17).trans rfl, (blk_cell BK121.out 18).trans rfl, (blk_cell BK121.out 19).trans rfl, (blk_cell BK121.out 20).trans rfl, (blk_cell BK121.out 21).trans rfl, (blk_cell BK121.out 22).trans rfl⟩ (fun hHeld => ?_)
     clear hK K
     refine norm_ (a' := ?_) ?_ ?_
     rotate_left
     ·
      show Act.put _ (some 20) _ = _
      simp only [Act.put, List.setIfInBounds_toArray, List.set_cons_zero, List.set_cons_succ, i64_w, i32_w]
      rfl
     refine one_ (i := 8) (N := some 23) (bb 12 511) rfl rfl (one_of HT_.out (by kernel_rfl)) (by decide) (fun K hK => ?_)
     refine goes_ Tryd.func57 (by kernel_rfl) rfl #[.int .i64 a0_3] (by rfl) rfl rfl (by (try simp only [List.map_toArray, List.map_cons, List.map_nil]); first | done | rfl | (simp only [List.length_drop, List.length_take]; rfl) | (go_simp; done) | (go_simp; omega)) ?_
     with_reducible refine (tell_num.calls a0_3 t130 _ A17.out (ht := (by first | exact HT.out | exact Go.Proofs.YtcebnaknodghcaaDoor.HItoa.Tab.below HT.out (by repeat (first | (with_reducible first | exact HB.out | apply below_alloc | apply pw_below_drewN | apply below_drew1) | exact HB.out))))).mono ?_
     rintro e w73 ⟨rfl, hb⟩
     refine ⟨_, rfl, ?_⟩
     have n0_ := Aside0.mk (blk_below (g := gb121) (o := .cells #[.int .i64 a0_0, .int .i64 a0_1, .int .i64 a0_2, .int .i64 a0_3, .int .u8 a0_4, .int .u8 a0_5, .int .i64 a0_6, .int .u32 a0_7, .int .u16 a0_8, .int .i64 a0_9, .int .i64 a0_10, .int .i64 a0_11, .int .u64 a0_12, .int .u64 a0_13, .slice A0_14 l0_14.length c0_14, .int .u64 a0_15, .int .i64 a0_16, .int .u8 a0_17, .int .i64 a0_18, .slice A0_19 l0_19.length c0_19, .int .i64 a0_20, .int .i64 a0_21, .slice A0_22 l0_22.length c0_22] 35 (0, 0)) (by (with_reducible repeat (first | refine blk_drewN ?_ _ | refine blk_drew ?_ | refine blk_alloc ?_ _)); exact BK121.out) hb)
     have n1_ := Aside0.mk (below_step (by repeat (first | (with_reducible first | exact HB.out | apply below_alloc | apply pw_below_drewN | apply below_drew1 | refine below_set ?_ GE121.out) | exact HB.out)) hb)
     clear BK121
     clear HB
     have BK121 := n0_
     have HB := n1_
     clear n0_ n1_
     (try clear hb)
     (try clear hb2)
     (try clear hk)
     (try clear hi)
     refine hK.out _ _ ⟨(blk_cell BK121.out 0).trans rfl, (blk_cell BK121.out 1).trans rfl, (blk_cell BK121.out 2).trans rfl, (blk_cell BK121.out 3).trans rfl, (blk_cell BK121.out 4).trans rfl, (blk_cell BK121.out 5).trans rfl, (blk_cell BK121.out 6).trans rfl, (blk_cell BK121.out 7).trans rfl, (blk_cell BK121.out 8).trans rfl, (blk_cell BK121.out 9).trans rfl, (blk_cell BK121.out 10).trans rfl, (blk_cell BK121.out 11).trans rfl, (blk_cell BK121.out 12).trans rfl, (blk_cell BK121.out 13).trans rfl, (blk_cell BK121.out 14).trans rfl, (blk_cell BK121.out 15).trans rfl, (blk_cell BK121.out 16).trans rfl, (blk_cell BK121.out 17).trans rfl, (blk_cell BK121.out 18).trans rfl, (blk_cell BK121.out 19).trans rfl, (blk_cell BK121.out 20).trans rfl, (blk_cell BK121.out 21).trans rfl, (blk_cell BK121.out 22).trans rfl⟩ (fun hHeld => ?_)
     clear hK K
     refine norm_ (a' := ?_) ?_ ?_
     rotate_left
     ·
      show Act.put _ (some 23) _ = _
      simp only [Act.put, List.setIfInBounds_toArray, List.set_cons_zero, List.set_cons_succ, i64_w, i32_w]
      rfl
     refine one_ (i := 9) (N := some 24) (bb 12 1023) rfl rfl (one_of HT_.out (by kernel_rfl)) (by decide) (fun K hK => ?_)
     refine Kd.R_lit_step Kd.string _ 9 ?hg (N := 24) ?hd (xs := ([(⟨#[104, 111, 115, 116]⟩ : ByteArray), t128, (⟨#[99, 116, 120]⟩ : ByteArray), t129, (⟨#[116, 105, 99, 107, 101, 116]⟩ : ByteArray), t130] : List ByteArray)) (inner := [.string (⟨#[104, 111, 115, 116]⟩ : ByteArray), .string t128, .string (⟨#[99, 116, 120]⟩ : ByteArray), .string t129, .string (⟨#[116, 105, 99, 107, 101, 116]⟩ : ByteArray), .string t130]) (ok := fun _ => True) (okp := fun _ => True) ?hr ?hp (fun _ hk => hk) trivial (Below.refl _ _) (Nat.le_refl _) (by simp) ?_; (case hd => rfl); (case hg => rfl); (case hr => first | (go_simp; done) | (go_simp; rfl)); (case hp => exact (Reps.one (show Kd.M Kd.string _ _ _ (⟨#[104, 111, 115, 116]⟩ : ByteArray) [.string (⟨#[104, 111, 115, 116]⟩ : ByteArray)] from rfl) (Reps.one (show Kd.M Kd.string _ _ _ t128 [.string t128] from rfl) (Reps.one (show Kd.M Kd.string _ _ _ (⟨#[99, 116, 120]⟩ : ByteArray) [.string (⟨#[99, 116, 120]⟩ : ByteArray)] from rfl) (Reps.one (show Kd.M Kd.string _ _ _ t129 [.string t129] from rfl) (Reps.one (show Kd.M Kd.string _ _ _ (⟨#[116, 105, 99, 107, 101, 116]⟩ : ByteArray) [.string (⟨#[116, 105, 99, 107, 101, 116]⟩ : ByteArray)] from rfl) (Reps.one (show Kd.M Kd.string _ _ _ t130 [.string t130] from rfl) (Reps.none _ _))))))))
     intro v132 w74 ho75 hb hg_ hnew_
     clear hg_ hnew_
     (first | rw [← Ny131.out] at ho75 | (simp only [Int.reduceToNat] at ho75; rw [← Ny131.out] at ho75))
     have n0_ := Aside0.mk (Kd.R_lower ho75 (below_size (by repeat (first | (with_reducible first | exact HB.out | apply below_alloc | apply pw_below_drewN | apply below_drew1 | refine below_set ?_ GE121.out) | exact HB.out))))
     have n1_ := Aside0.mk (blk_below (g := gb121) (o := .cells #[.int .i64 a0_0, .int .i64 a0_1, .int .i64 a0_2, .int .i64 a0_3, .int .u8 a0_4, .int .u8 a0_5, .int .i64 a0_6, .int .u32 a0_7, .int .u16 a0_8, .int .i64 a0_9, .int .i64 a0_10, .int .i64 a0_11, .int .u64 a0_12, .int .u64 a0_13, .slice A0_14 l0_14.length c0_14, .int .u64 a0_15, .int .i64 a0_16, .int .u8 a0_17, .int .i64 a0_18, .slice A0_19 l0_19.length c0_19, .int .i64 a0_20, .int .i64 a0_21, .slice A0_22 l0_22.length c0_22] 35 (0, 0)) (by (with_reducible repeat (first | refine blk_drewN ?_ _ | refine blk_drew ?_ | refine blk_alloc ?_ _)); exact BK121.out) hb)
     have n2_ := Aside0.mk (below_step (by repeat (first | (with_reducible first | exact HB.out | apply below_alloc | apply pw_below_drewN | apply below_drew1 | refine below_set ?_ GE121.out) | exact HB.out)) hb)
     clear BK121
     clear HB
     have HO133 := n0_
     have BK121 := n1_
     have HB := n2_
     clear n0_ n1_ n2_
     clear hb ho75
     obtain ⟨Ao76, co76, eo76⟩ := Kd.R_slice HO133.out
     (first | subst eo76 | (injection eo76 with f1_ f2_ f3_; have f4_ := f1_.symm; have f5_ := f3_.symm; clear f1_ f2_ f3_; subst f4_; subst f5_))
     refine hK.out _ _ ⟨(blk_cell BK121.out 0).trans rfl, (blk_cell BK121.out 1).trans rfl, (blk_cell BK121.out 2).trans rfl, (blk_cell BK121.out 3).trans rfl, (blk_cell BK121.out 4).trans rfl, (blk_cell BK121.out 5).trans rfl, (blk_cell BK121.out 6).trans rfl, (blk_cell BK121.out 7).trans rfl, (blk_cell BK121.out 8).trans rfl, (blk_cell BK121.out 9).trans rfl, (blk_cell BK121.out 10).trans rfl, (blk_cell BK121.out 11).trans rfl, (blk_cell BK121.out 12).trans rfl, (blk_cell BK121.out 13).trans rfl, (blk_cell BK121.out 14).trans rfl, (blk_cell BK121.out 15).trans rfl, (blk_cell BK121.out 16).trans rfl, (blk_cell BK121.out 17).trans rfl, (blk_cell BK121.out 18).trans rfl, (blk_cell BK121.out 19).trans rfl, (blk_cell BK121.out 20).trans rfl, (blk_cell BK121.out 21).trans rfl, (blk_cell BK121.out 22).trans rfl⟩ (fun hHeld => ?_)
     clear hK K
     refine norm_ (a' := ?_) ?_ ?_
     rotate_left
     ·
      show Act.put _ (some 24) _ = _
      simp only [Act.put, List.setIfInBounds_toArray, List.set_cons_zero, List.set_cons_succ, i64_w, i32_w]
      rfl
     refine one_ (i := 10) (N := some 25) (bb 12 2047) rfl rfl (one_of HT_.out (by kernel_rfl)) (by decide) (fun K hK => ?_)
     refine goes_ Tryd.func56 (by kernel_rfl) rfl #[.slice Ao76 y131.length co76] (by rfl) rfl rfl (by (try simp only [List.map_toArray, List.map_cons, List.map_nil]); first | done | rfl | (simp only [List.length_drop, List.length_take]; rfl) | (go_simp; done) | (go_simp; omega)) ?_
     with_reducible refine (tell_words.calls _ _ y131 t134 _ ?side1 ?side2 A18.out).mono ?_
     (case side1 => repeat (first | exact (Kd.R_reads' HO133.out).2.2 | (with_reducible refine Kd.C_alloc ?_ _) | (with_reducible refine Kd.C_drewN ?_ _) | (with_reducible refine Kd.C_drew ?_)))
     (case side2 => exact (Kd.R_reads' HO133.out).2.1)
     rintro e w77 ⟨rfl, hb⟩
     refine ⟨_, rfl, ?_⟩
     have n0_ := Aside0.mk (Kd.R_below (by (with_reducible repeat (first | apply Kd.R_alloc | apply Kd.R_drewN | apply Kd.R_drew)); exact HO133.out) hb)
     have n1_ := Aside0.mk (blk_below (g := gb121) (o := .cells #[.int .i64 a0_0, .int .i64 a0_1, .int .i64 a0_2, .int .i64 a0_3, .int .u8 a0_4, .int .u8 a0_5, .int .i64 a0_6, .int .u32 a0_7, .int .u16 a0_8, .int .i64 a0_9, .int .i64 a0_10, .int .i64 a0_11, .int .u64 a0_12, .int .u64 a0_13, .slice A0_14 l0_14.length c0_14, .int .u64 a0_15, .int .i64 a0_16, .int .u8 a0_17, .int .i64 a0_18, .slice A0_19 l0_19.length c0_19, .int .i64 a0_20, .int .i64 a0_21, .slice A0_22 l0_22.length c0_22] 35 (0, 0)) (by (with_reducible repeat (first | refine blk_drewN ?_ _ | refine blk_drew ?_ | refine blk_alloc ?_ _)); exact BK121.out) hb)
     have n2_ := Aside0.mk (below_step (by repeat (first | (with_reducible first | exact HB.out | apply below_alloc | apply pw_below_drewN | apply below_drew1 | refine below_set ?_ GE121.out) | exact HB.out)) hb)
     clear HO133
     clear BK121
     clear HB
     have HO133 := n0_
     have BK121 := n1_
     have HB := n2_
     clear n0_ n1_ n2_
     (try clear hb)
     (try clear hb2)
     (try clear hk)
     (try clear hi)
     refine hK.out _ _ ⟨(blk_cell BK121.out 0).trans rfl, (blk_cell BK121.out 1).trans rfl, (blk_cell BK121.out 2).trans rfl, (blk_cell BK121.out 3).trans rfl, (blk_cell BK121.out 4).trans rfl, (blk_cell BK121.out 5).trans rfl, (blk_cell BK121.out 6).trans rfl, (blk_cell BK121.out 7).trans rfl, (blk_cell BK121.out 8).trans rfl, (blk_cell BK121.out 9).trans rfl, (blk_cell BK121.out 10).trans rfl, (blk_cell BK121.out 11).trans rfl, (blk_cell BK121.out 12).trans rfl, (blk_cell BK121.out 13).trans rfl, (blk_cell BK121.out 14).trans rfl, (blk_cell BK121.out 15).trans rfl, (blk_cell BK121.out 16).trans rfl, (blk_cell BK121.out 17).trans rfl, (blk_cell BK121.out 18).trans rfl, (blk_cell BK121.out 19).trans rfl, (blk_cell BK121.out 20).trans rfl, (blk_cell BK121.out 21).trans rfl, (blk_cell BK121.out 22).trans rfl⟩ (fun hHeld => ?_)
     clear hK K
     refine norm_ (a' := ?_) ?_ ?_
     rotate_left
     ·
      show Act.put _ (some 25) _ = _
      simp only [Act.put, List.setIfInBounds_toArray, List.set_cons_zero, List.set_cons_succ, i64_w, i32_w]
      rfl
     refine pure_ (i := 11) (N := some 3) (v := ?_) (a' := ?_) (bb 12 4095) rfl rfl (any_of HT_.out (by kernel_rfl)) (fun _ _ _ h => h) (Or.inl ⟨by rfl, ?_⟩) ?_ ?_
     rotate_left
     ·
      intro w'
      go_simp
      with_reducible rfl
     rotate_left
     ·
      simp only [Act.put, List.setIfInBounds_toArray, List.set_cons_zero, List.set_cons_succ, i64_w, i32_w]
      rfl
     refine done_ (done_of HT_.out (by kernel_rfl)) ?_
     have hcz78_0 : w77.cell? ⟨gb121, 0, none⟩ = some (.int .i64 a0_0) := (blk_cell BK121.out 0).trans rfl
     have hcz78_1 : w77.cell? ⟨gb121, 1, none⟩ = some (.int .i64 a0_1) := (blk_cell BK121.out 1).trans rfl
     have hcz78_2 : w77.cell? ⟨gb121, 2, none⟩ = some (.int .i64 a0_2) := (blk_cell BK121.out 2).trans rfl
     have hcz78_3 : w77.cell? ⟨gb121, 3, none⟩ = some (.int .i64 a0_3) := (blk_cell BK121.out 3).trans rfl
     have hcz78_4 : w77.cell? ⟨gb121, 4, none⟩ = some (.int .u8 a0_4) := (blk_cell BK121.out 4).trans rfl
     have hcz78_5 : w77.cell? ⟨gb121, 5, none⟩ = some (.int .u8 a0_5) := (blk_cell BK121.out 5).trans rfl
     have hcz78_6 : w77.cell? ⟨gb121, 6, none⟩ = some (.int .i64 a0_6) := (blk_cell BK121.out 6).trans rfl
     have hcz78_7 : w77.cell? ⟨gb121, 7, none⟩ = some (.int .u32 a0_7) := (blk_cell BK121.out 7).trans rfl
     have hcz78_8 : w77.cell? ⟨gb121, 8, none⟩ = some (.int .u16 a0_8) := (blk_cell BK121.out 8).trans rfl
     have hcz78_9 : w77.cell? ⟨gb121, 9, none⟩ = some (.int .i64 a0_9) := (blk_cell BK121.out 9).trans rfl
     have hcz78_10 : w77.cell? ⟨gb121, 10, none⟩ = some (.int .i64 a0_10) := (blk_cell BK121.out 10).trans rfl
     have hcz78_11 : w77.cell? ⟨gb121, 11, none⟩ = some (.int .i64 a0_11) := (blk_cell BK121.out 11).trans rfl
     have hcz78_12 : w77.cell? ⟨gb121, 12, none⟩ = some (.int .u64 a0_12) := (blk_cell BK121.out 12).trans rfl
     have hcz78_13 : w77.cell? ⟨gb121, 13, none⟩ = some (.int .u64 a0_13) := (blk_cell BK121.out 13).trans rfl
     have hcz78_14 : w77.cell? ⟨gb121, 14, none⟩ = some (.slice A0_14 l0_14.length c0_14) := (blk_cell BK121.out 14).trans rfl
     have hcz78_15 : w77.cell? ⟨gb121, 15, none⟩ = some (.int .u64 a0_15) := (blk_cell BK121.out 15).trans rfl
     have hcz78_16 : w77.cell? ⟨gb121, 16, none⟩ = some (.int .i64 a0_16) := (blk_cell BK121.out 16).trans rfl
     have hcz78_17 : w77.cell? ⟨gb121, 17, none⟩ = some (.int .u8 a0_17) := (blk_cell BK121.out 17).trans rfl
     have hcz78_18 : w77.cell? ⟨gb121, 18, none⟩ = some (.int .i64 a0_18) := (blk_cell BK121.out 18).trans rfl
     have hcz78_19 : w77.cell? ⟨gb121, 19, none⟩ = some (.slice A0_19 l0_19.length c0_19) := (blk_cell BK121.out 19).trans rfl
     have hcz78_20 : w77.cell? ⟨gb121, 20, none⟩ = some (.int .i64 a0_20) := (blk_cell BK121.out 20).trans rfl
     have hcz78_21 : w77.cell? ⟨gb121, 21, none⟩ = some (.int .i64 a0_21) := (blk_cell BK121.out 21).trans rfl
     have hcz78_22 : w77.cell? ⟨gb121, 22, none⟩ = some (.slice A0_22 l0_22.length c0_22) := (blk_cell BK121.out 22).trans rfl
     have hfz78_0 := blk_frozen BK121.out 0
     have hfz78_1 := blk_frozen BK121.out 1
     have hfz78_2 := blk_frozen BK121.out 2
     have hfz78_3 := blk_frozen BK121.out 3
     have hfz78_4 := blk_frozen BK121.out 4
     have hfz78_5 := blk_frozen BK121.out 5
     have hfz78_6 := blk_frozen BK121.out 6
     have hfz78_7 := blk_frozen BK121.out 7
     have hfz78_8 := blk_frozen BK121.out 8
     have hfz78_9 := blk_frozen BK121.out 9
     have hfz78_10 := blk_frozen BK121.out 10
     have hfz78_11 := blk_frozen BK121.out 11
     have hfz78_12 := blk_frozen BK121.out 12
     have hfz78_13 := blk_frozen BK121.out 13
     have hfz78_14 := blk_frozen BK121.out 14
     have hfz78_15 := blk_frozen BK121.out 15
     have hfz78_16 := blk_frozen BK121.out 16
     have hfz78_17 := blk_frozen BK121.out 17
     have hfz78_18 := blk_frozen BK121.out 18
     have hfz78_19 := blk_frozen BK121.out 19
     have hfz78_20 := blk_frozen BK121.out 20
     have hfz78_21 := blk_frozen BK121.out 21
     have hfz78_22 := blk_frozen BK121.out 22
     try go_wp2
     have n0_ := Aside0.mk (Kd.R_drew HO133.out)
     have n1_ := Aside0.mk (blk_drew BK121.out)
     have n2_ := Aside0.mk (below_drew1 HB.out)
     clear HO133
     clear BK121
     clear HB
     have HO133 := n0_
     have BK121 := n1_
     have HB := n2_
     clear n0_ n1_ n2_
     refine start_ (n := 12) (S := fun w' => w'.cell? ⟨gb121, 0, none⟩ = some (.int .i64 a0_0) ∧ w'.cell? ⟨gb121, 1, none⟩ = some (.int .i64 a0_1) ∧ w'.cell? ⟨gb121, 2, none⟩ = some (.int .i64 a0_2) ∧ w'.cell? ⟨gb121, 3, none⟩ = some (.int .i64 a0_3) ∧ w'.cell? ⟨gb121, 4, none⟩ = some (.int .u8 a0_4) ∧ w'.cell? ⟨gb121, 5, none⟩ = some (.int .u8 a0_5) ∧ w'.cell? ⟨gb121, 6, none⟩ = some (.int .i64 a0_6) ∧ w'.cell? ⟨gb121, 7, none⟩ = some (.int .u32 a0_7) ∧ w'.cell? ⟨gb121, 8, none⟩ = some (.int .u16 a0_8) ∧ w'.cell? ⟨gb121, 9, none⟩ = some (.int .i64 a0_9) ∧ w'.cell? ⟨gb121, 10, none⟩ = some (.int .i64 a0_10) ∧ w'.cell? ⟨gb121, 11, none⟩ = some (.int .i64 a0_11) ∧ w'.cell? ⟨gb121, 12, none⟩ = some (.int .u64 a0_12) ∧ w'.cell? ⟨gb121, 13, none⟩ = some (.int .u64 a0_13) ∧ w'.cell? ⟨gb121, 14, none⟩ = some (.slice A0_14 l0_14.length c0_14) ∧ w'.cell? ⟨gb121, 15, none⟩ = some (.int .u64 a0_15) ∧ w'.cell? ⟨gb121, 16, none⟩ = some (.int .i64 a0_16) ∧ w'.cell? ⟨gb121, 17, none⟩ = some (.int .u8 a0_17) ∧ w'.cell? ⟨gb121, 18, none⟩ = some (.int .i64 a0_18) ∧ w'.cell? ⟨gb121, 19, none⟩ = some (.slice A0_19 l0_19.length c0_19) ∧ w'.cell? ⟨gb121, 20, none⟩ = some (.int .i64 a0_20) ∧ w'.cell? ⟨gb121, 21, none⟩ = some (.int .i64 a0_21) ∧ w'.cell? ⟨gb121, 22, none⟩ = some (.slice A0_22 l0_22.length c0_22)) (ds := []) (bb 12 0) (by kernel_rfl) rfl rfl ⟨(blk_cell BK121.out 0).trans rfl, (blk_cell BK121.out 1).trans rfl, (blk_cell BK121.out 2).trans rfl, (blk_cell BK121.out 3).trans rfl, (blk_cell BK121.out 4).trans rfl, (blk_cell BK121.out 5).trans rfl, (blk_cell BK121.out 6).trans rfl, (blk_cell BK121.out 7).trans rfl, (blk_cell BK121.out 8).trans rfl, (blk_cell BK121.out 9).trans rfl, (blk_cell BK121.out 10).trans rfl, (blk_cell BK121.out 11).trans rfl, (blk_cell BK121.out 12).trans rfl, (blk_cell BK121.out 13).trans rfl, (blk_cell BK121.out 14).trans rfl, (blk_cell BK121.out 15).trans rfl, (blk_cell BK121.out 16).trans rfl, (blk_cell BK121.out 17).trans rfl, (blk_cell BK121.out 18).trans rfl, (blk_cell BK121.out 19).trans rfl, (blk_cell BK121.out 20).trans rfl, (blk_cell BK121.out 21).trans rfl, (blk_cell BK121.out 22).trans rfl⟩ (fun hHeld => ?_); refine with_tabW tell_Mark.tab10 tell_Mark.bits10 (fun HT_ HW_ => ?_)
     generalize w77.drew = w79 at HO133 BK121 HB hHeld ⊢
     refine pure_ (i := 0) (N := some 56) (v := ?_) (a' := ?_) (bb 12 1) rfl rfl (any_of HT_.out (by kernel_rfl)) (fun _ _ _ h => h) (Or.inl ⟨by rfl, ?_⟩) ?_ ?_
     rotate_left
     ·
      intro w'
      go_simp
      with_reducible rfl
     rotate_left
     ·
      simp only [Act.put, List.setIfInBounds_toArray, List.set_cons_zero, List.set_cons_succ, i64_w, i32_w]
      rfl
     refine pure_ (i := 1) (N := some 57) (v := ?_) (a' := ?_) (bb 12 3) rfl rfl (any_of HT_.out (by kernel_rfl)) (fun _ _ _ h => h) (Or.inl ⟨by rfl, ?_⟩) ?_ ?_
     rotate_left
     ·
      intro w'
      go_simp
      with_reducible rfl
     rotate_left
     ·
      simp only [Act.put, List.setIfInBounds_toArray, List.set_cons_zero, List.set_cons_succ, i64_w, i32_w]
      rfl
     refine pure_ (i := 2) (N := some 58) (v := ?_) (a' := ?_) (bb 12 7) rfl rfl (any_of HT_.out (by kernel_rfl)) (fun _ _ _ h => h) (Or.inl ⟨by rfl, ?_⟩) ?_ ?_
     rotate_left
     ·
      intro w'
      go_simp
      with_reducible rfl
     rotate_left
     ·
      simp only [Act.put, List.setIfInBounds_toArray, List.set_cons_zero, List.set_cons_succ, i64_w, i32_w]
      rfl
     refine pure_ (i := 5) (N := some 61) (v := ?_) (a' := ?_) (bb 12 39) rfl rfl (any_of HT_.out (by kernel_rfl)) (fun _ _ _ h => h) (Or.inl ⟨by rfl, ?_⟩) ?_ ?_
     rotate_left
     ·
      intro w'
      go_simp
      with_reducible rfl
     rotate_left
     ·
      simp only [Act.put, List.setIfInBounds_toArray, List.set_cons_zero, List.set_cons_succ, i64_w, i32_w]
      rfl
     refine pure_ (i := 6) (N := some 62) (v := ?_) (a' := ?_) (bb 12 103) rfl rfl (any_of HT_.out (by kernel_rfl)) (fun _ _ _ h => h) (Or.inl ⟨by rfl, ?_⟩) ?_ ?_
     rotate_left
     ·
      intro w'
      go_simp
      with_reducible rfl
     rotate_left
     ·
      simp only [Act.put, List.setIfInBounds_toArray, List.set_cons_zero, List.set_cons_succ, i64_w, i32_w]
      rfl
     refine take_ (i := 3) (N := some 59) (v := ?_) (a' := ?_) (bb 12 111) rfl rfl (take_ofW HT_.out HW_.out (by kernel_rfl)) (fun _ _ _ h => h) (Or.inl ⟨by rfl, ?_⟩) hHeld ?_ ?_
     rotate_left
     ·
      rintro w' ⟨s0, s1, s2, s3, s4, s5, s6, s7, s8, s9, s10, s11, s12, s13, s14, s15, s16, s17, s18, s19, s20, s21, s22⟩
      go_simp
      with_reducible rfl
     rotate_left
     ·
      simp only [Act.put, List.setIfInBounds_toArray, List.set_cons_zero, List.set_cons_succ, i64_w, i32_w]
      rfl
     refine take_ (i := 7) (N := some 63) (v := ?_) (a' := ?_) (bb 12 239) rfl rfl (take_ofW HT_.out HW_.out (by kernel_rfl)) (fun _ _ _ h => h) (Or.inl ⟨by rfl, ?_⟩) hHeld ?_ ?_
     rotate_left
     ·
      rintro w' ⟨s0, s1, s2, s3, s4, s5, s6, s7, s8, s9, s10, s11, s12, s13, s14, s15, s16, s17, s18, s19, s20, s21, s22⟩
      go_simp
      with_reducible rfl
     rotate_left
     ·
      simp only [Act.put, List.setIfInBounds_toArray, List.set_cons_zero, List.set_cons_succ, i64_w, i32_w]
      rfl
     refine one_ (i := 4) (N := some 60) (bb 12 255) rfl rfl (one_of HT_.out (by kernel_rfl)) (by decide) (fun K hK => ?_)
     refine goes_ Tryd.func57 (by kernel_rfl) rfl #[.int .i64 a0_16] (by rfl) rfl rfl (by (try simp only [List.map_toArray, List.map_cons, List.map_nil]); first | done | rfl | (simp only [List.length_drop, List.length_take]; rfl) | (go_simp; done) | (go_simp; omega)) ?_
     with_reducible refine (tell_num.calls a0_16 t147 _ A64.out (ht := (by first | exact HT.out | exact Go.Proofs.YtcebnaknodghcaaDoor.HItoa.Tab.below HT.out (by repeat (first | (with_reducible first | exact HB.out | apply below_alloc | apply pw_below_drewN | apply below_drew1) | exact HB.out))))).mono ?_
     rintro e w80 ⟨rfl, hb⟩
     refine ⟨_, rfl, ?_⟩
     have n0_ := Aside0.mk (Kd.R_below (by (with_reducible repeat (first | apply Kd.R_alloc | apply Kd.R_drewN | apply Kd.R_drew)); exact HO133.out) hb)
     have n1_ := Aside0.mk (blk_below (g := gb121) (o := .cells #[.int .i64 a0_0, .int .i64 a0_1, .int .i64 a0_2, .int .i64 a0_3, .int .u8 a0_4, .int .u8 a0_5, .int .i64 a0_6, .int .u32 a0_7, .int .u16 a0_8, .int .i64 a0_9, .int .i64 a0_10, .int .i64 a0_11, .int .u64 a0_12, .int .u64 a0_13, .slice A0_14 l0_14.length c0_14, .int .u64 a0_15, .int .i64 a0_16, .int .u8 a0_17, .int .i64 a0_18, .slice A0_19 l0_19.length c0_19, .int .i64 a0_20, .int .i64 a0_21, .slice A0_22 l0_22.length c0_22] 35 (0, 0)) (by (with_reducible repeat (first | refine blk_drewN ?_ _ | refine blk_drew ?_ | refine blk_alloc ?_ _)); exact BK121.out) hb)
     have n2_ := Aside0.mk (below_step (by repeat (first | (with_reducible first | exact HB.out | apply below_alloc | apply pw_below_drewN | apply below_drew1 | refine below_set ?_ GE121.out) | exact HB.out)) hb)
     clear HO133
     clear BK121
     clear HB
     have HO133 := n0_
     have BK121 := n1_
     have HB := n2_
     clear n0_ n1_ n2_
     (try clear hb)
     (try clear hb2)
     (try clear hk)
     (try clear hi)
     refine hK.out _ _ ⟨(blk_cell BK121.out 0).trans rfl, (blk_cell BK121.out 1).trans rfl, (blk_cell BK121.out 2).trans rfl, (blk_cell BK121.out 3).trans rfl, (blk_cell BK121.out 4).trans rfl, (blk_cell BK121.out 5).trans rfl, (blk_cell BK121.out 6).trans rfl, (blk_cell BK121.out 7).trans rfl, (blk_cell BK121.out 8).trans rfl, (blk_cell BK121.out 9).trans rfl, (blk_cell BK121.out 10).trans rfl, (blk_cell BK121.out 11).trans rfl, (blk_cell BK121.out 12).trans rfl, (blk_cell BK121.out 13).trans rfl, (blk_cell BK121.out 14).trans rfl, (blk_cell BK121.out 15).trans rfl, (blk_cell BK121.out 16).trans rfl, (blk_cell BK121.out 17).trans rfl, (blk_cell BK121.out 18).trans rfl, (blk_cell BK121.out 19).trans rfl, (blk_cell BK121.out 20).trans rfl, (blk_cell BK121.out 21).trans rfl, (blk_cell BK121.out 22).trans rfl⟩ (fun hHeld => ?_)
     clear hK K
     refine norm_ (a' := ?_) ?_ ?_
     rotate_left
     ·
      show Act.put _ (some 60) _ = _
      simp only [Act.put, List.setIfInBounds_toArray, List.set_cons_zero, List.set_cons_succ, i64_w, i32_w]
      rfl
     refine one_ (i := 8) (N := some 64) (bb 12 511) rfl rfl (one_of HT_.out (by kernel_rfl)) (by decide) (fun K hK => ?_)
     refine goes_ Tryd.func59 (by kernel_rfl) rfl #[.int .u64 a0_15] (by rfl) rfl rfl (by (try simp only [List.map_toArray, List.map_cons, List.map_nil]); first | done | rfl | (simp only [List.length_drop, List.length_take]; rfl) | (go_simp; done) | (go_simp; omega)) ?_
     with_reducible refine (tell_user.calls a0_15 t148 _ A65.out (ht := (by first | exact HT.out | exact Go.Proofs.YtcebnaknodghcaaDoor.HItoa.Tab.below HT.out (by repeat (first | (with_reducible first | exact HB.out | apply below_alloc | apply pw_below_drewN | apply below_drew1) | exact HB.out))))).mono ?_
     rintro e w81 ⟨rfl, hb⟩
     refine ⟨_, rfl, ?_⟩
     have n0_ := Aside0.mk (Kd.R_below (by (with_reducible repeat (first | apply Kd.R_alloc | apply Kd.R_drewN | apply Kd.R_drew)); exact HO133.out) hb)
     have n1_ := Aside0.mk (blk_below (g := gb121) (o := .cells #[.int .i64 a0_0, .int .i64 a0_1, .int .i64 a0_2, .int .i64 a0_3, .int .u8 a0_4, .int .u8 a0_5, .int .i64 a0_6, .int .u32 a0_7, .int .u16 a0_8, .int .i64 a0_9, .int .i64 a0_10, .int .i64 a0_11, .int .u64 a0_12, .int .u64 a0_13, .slice A0_14 l0_14.length c0_14, .int .u64 a0_15, .int .i64 a0_16, .int .u8 a0_17, .int .i64 a0_18, .slice A0_19 l0_19.length c0_19, .int .i64 a0_20, .int .i64 a0_21, .slice A0_22 l0_22.length c0_22] 35 (0, 0)) (by (with_reducible repeat (first | refine blk_drewN ?_ _ | refine blk_drew ?_ | refine blk_alloc ?_ _)); exact BK121.out) hb)
     have n2_ := Aside0.mk (below_step (by repeat (first | (with_reducible first | exact HB.out | apply below_alloc | apply pw_below_drewN | apply below_drew1 | refine below_set ?_ GE121.out) | exact HB.out)) hb)
     clear HO133
     clear BK121
     clear HB
     have HO133 := n0_
     have BK121 := n1_
     have HB := n2_
     clear n0_ n1_ n2_
     (try clear hb)
     (try clear hb2)
     (try clear hk)
     (try clear hi)
     refine hK.out _ _ ⟨(blk_cell BK121.out 0).trans rfl, (blk_cell BK121.out 1).trans rfl, (blk_cell BK121.out 2).trans rfl, (blk_cell BK121.out 3).trans rfl, (blk_cell BK121.out 4).trans rfl, (blk_cell BK121.out 5).trans rfl, (blk_cell BK121.out 6).trans rfl, (blk_cell BK121.out 7).trans rfl, (blk_cell BK121.out 8).trans rfl, (blk_cell BK121.out 9).trans rfl, (blk_cell BK121.out 10).trans rfl, (blk_cell BK121.out 11).trans rfl, (blk_cell BK121.out 12).trans rfl, (blk_cell BK121.out 13).trans rfl, (blk_cell BK121.out 14).trans rfl, (blk_cell BK121.out 15).trans rfl, (blk_cell BK121.out 16).trans rfl, (blk_cell BK121.out 17).trans rfl, (blk_cell BK121.out 18).trans rfl, (blk_cell BK121.out 19).trans rfl, (blk_cell BK121.out 20).trans rfl, (blk_cell BK121.out 21).trans rfl, (blk_cell BK121.out 22).trans rfl⟩ (fun hHeld => ?_)
     clear hK K
     refine norm_ (a' := ?_) ?_ ?_
     rotate_left
     ·
      show Act.put _ (some 64) _ = _
      simp only [Act.put, List.setIfInBounds_toArray, List.set_cons_zero, List.set_cons_succ, i64_w, i32_w]
      rfl
     refine one_ (i := 9) (N := some 65) (bb 12 1023) rfl rfl (one_of HT_.out (by kernel_rfl)) (by decide) (fun K hK => ?_)
     refine Kd.R_lit_step Kd.string _ 9 ?hg (N := 65) ?hd (xs := ([t134, (⟨#[100, 111, 110, 101]⟩ : ByteArray), t147, t148] : List ByteArray)) (inner := [.string t134, .string (⟨#[100, 111, 110, 101]⟩ : ByteArray), .string t147, .string t148]) (ok := fun _ => True) (okp := fun _ => True) ?hr ?hp (fun _ hk => hk) trivial (Below.refl _ _) (Nat.le_refl _) (by simp) ?_; (case hd => rfl); (case hg => rfl); (case hr => first | (go_simp; done) | (go_simp; rfl)); (case hp => exact (Reps.one (show Kd.M Kd.string _ _ _ t134 [.string t134] from rfl) (Reps.one (show Kd.M Kd.string _ _ _ (⟨#[100, 111, 110, 101]⟩ : ByteArray) [.string (⟨#[100, 111, 110, 101]⟩ : ByteArray)] from rfl) (Reps.one (show Kd.M Kd.string _ _ _ t147 [.string t147] from rfl) (Reps.one (show Kd.M Kd.string _ _ _ t148 [.string t148] from rfl) (Reps.none _ _))))))
     intro v150 w82 ho83 hb hg_ hnew_
     clear hg_ hnew_
     (first | rw [← Ny149.out] at ho83 | (simp only [Int.reduceToNat] at ho83; rw [← Ny149.out] at ho83))
     have n0_ := Aside0.mk (Kd.R_elder' (by (with_reducible repeat (first | apply Kd.R_alloc | apply Kd.R_drewN | apply Kd.R_drew)); exact HO133.out) (Kd.R_base ho83) hb)
     have n1_ := Aside0.mk (Kd.R_lower (Kd.R_new' ho83 (Kd.R_lt (by (with_reducible repeat (first | apply Kd.R_alloc | apply Kd.R_drewN | apply Kd.R_drew)); exact HO133.out))) (below_size (by repeat (first | (with_reducible first | exact HB.out | apply below_alloc | apply pw_below_drewN | apply below_drew1 | refine below_set ?_ GE121.out) | exact HB.out))))
     have n2_ := Aside0.mk (blk_below (g := gb121) (o := .cells #[.int .i64 a0_0, .int .i64 a0_1, .int .i64 a0_2, .int .i64 a0_3, .int .u8 a0_4, .int .u8 a0_5, .int .i64 a0_6, .int .u32 a0_7, .int .u16 a0_8, .int .i64 a0_9, .int .i64 a0_10, .int .i64 a0_11, .int .u64 a0_12, .int .u64 a0_13, .slice A0_14 l0_14.length c0_14, .int .u64 a0_15, .int .i64 a0_16, .int .u8 a0_17, .int .i64 a0_18, .slice A0_19 l0_19.length c0_19, .int .i64 a0_20, .int .i64 a0_21, .slice A0_22 l0_22.length c0_22] 35 (0, 0)) (by (with_reducible repeat (first | refine blk_drewN ?_ _ | refine blk_drew ?_ | refine blk_alloc ?_ _)); exact BK121.out) hb)
     have n3_ := Aside0.mk (below_step (by repeat (first | (with_reducible first | exact HB.out | apply below_alloc | apply pw_below_drewN | apply below_drew1 | refine below_set ?_ GE121.out) | exact HB.out)) hb)
     clear HO133
     clear BK121
     clear HB
     have HO133 := n0_
     have HO151 := n1_
     have BK121 := n2_
     have HB := n3_
     clear n0_ n1_ n2_ n3_
     clear hb ho83
     obtain ⟨Ao84, co84, eo84⟩ := Kd.R_slice HO151.out
     (first | subst eo84 | (injection eo84 with f1_ f2_ f3_; have f4_ := f1_.symm; have f5_ := f3_.symm; clear f1_ f2_ f3_; subst f4_; subst f5_))
     refine hK.out _ _ ⟨(blk_cell BK121.out 0).trans rfl, (blk_cell BK121.out 1).trans rfl, (blk_cell BK121.out 2).trans rfl, (blk_cell BK121.out 3).trans rfl, (blk_cell BK121.out 4).trans rfl, (blk_cell BK121.out 5).trans rfl, (blk_cell BK121.out 6).trans rfl, (blk_cell BK121.out 7).trans rfl, (blk_cell BK121.out 8).trans rfl, (blk_cell BK121.out 9).trans rfl, (blk_cell BK121.out 10).trans rfl, (blk_cell BK121.out 11).trans rfl, (blk_cell BK121.out 12).trans rfl, (blk_cell BK121.out 13).trans rfl, (blk_cell BK121.out 14).trans rfl, (blk_cell BK121.out 15).trans rfl, (blk_cell BK121.out 16).trans rfl, (blk_cell BK121.out 17).trans rfl, (blk_cell BK121.out 18).trans rfl, (blk_cell BK121.out 19).trans rfl, (blk_cell BK121.out 20).trans rfl, (blk_cell BK121.out 21).trans rfl, (blk_cell BK121.out 22).trans rfl⟩ (fun hHeld => ?_)
     clear hK K
     refine norm_ (a' := ?_) ?_ ?_
     rotate_left
     ·
      show Act.put _ (some 65) _ = _
      simp only [Act.put, List.setIfInBounds_toArray, List.set_cons_zero, List.set_cons_succ, i64_w, i32_w]
      rfl
     refine one_ (i := 10) (N := some 66) (bb 12 2047) rfl rfl (one_of HT_.out (by kernel_rfl)) (by decide) (fun K hK => ?_)
     refine goes_ Tryd.func56 (by kernel_rfl) rfl #[.slice Ao84 y149.length co84] (by rfl) rfl rfl (by (try simp only [List.map_toArray, List.map_cons, List.map_nil]); first | done | rfl | (simp only [List.length_drop, List.length_take]; rfl) | (go_simp; done) | (go_simp; omega)) ?_
     with_reducible refine (tell_words.calls _ _ y149 t152 _ ?side1 ?side2 A66.out).mono ?_
     (case side1 => repeat (first | exact (Kd.R_reads' HO151.out).2.2 | (with_reducible refine Kd.C_alloc ?_ _) | (with_reducible refine Kd.C_drewN ?_ _) | (with_reducible refine Kd.C_drew ?_)))
     (case side2 => exact (Kd.R_reads' HO151.out).2.1)
     rintro e w85 ⟨rfl, hb⟩
     refine ⟨_, rfl, ?_⟩
     have n0_ := Aside0.mk (Kd.R_below (by (with_reducible repeat (first | apply Kd.R_alloc | apply Kd.R_drewN | apply Kd.R_drew)); exact HO133.out) hb)
     have n1_ := Aside0.mk (Kd.R_below (by (with_reducible repeat (first | apply Kd.R_alloc | apply Kd.R_drewN | apply Kd.R_drew)); exact HO151.out) hb)
     have n2_ := Aside0.mk (blk_below (g := gb121) (o := .cells #[.int .i64 a0_0, .int .i64 a0_1, .int .i64 a0_2, .int .i64 a0_3, .int .u8 a0_4, .int .u8 a0_5, .int .i64 a0_6, .int .u32 a0_7, .int .u16 a0_8, .int .i64 a0_9, .int .i64 a0_10, .int .i64 a0_11, .int .u64 a0_12, .int .u64 a0_13, .slice A0_14 l0_14.length c0_14, .int .u64 a0_15, .int .i64 a0_16, .int .u8 a0_17, .int .i64 a0_18, .slice A0_19 l0_19.length c0_19, .int .i64 a0_20, .int .i64 a0_21, .slice A0_22 l0_22.length c0_22] 35 (0, 0)) (by (with_reducible repeat (first | refine blk_drewN ?_ _ | refine blk_drew ?_ | refine blk_alloc ?_ _)); exact BK121.out) hb)
     have n3_ := Aside0.mk (below_step (by repeat (first | (with_reducible first | exact HB.out | apply below_alloc | apply pw_below_drewN | apply below_drew1 | refine below_set ?_ GE121.out) | exact HB.out)) hb)
     clear HO133
     clear HO151
     clear BK121
     clear HB
     have HO133 := n0_
     have HO151 := n1_
     have BK121 := n2_
     have HB := n3_
     clear n0_ n1_ n2_ n3_
     (try clear hb)
     (try clear hb2)
     (try clear hk)
     (try clear hi)
     refine hK.out _ _ ⟨(blk_cell BK121.out 0).trans rfl, (blk_cell BK121.out 1).trans rfl, (blk_cell BK121.out 2).trans rfl, (blk_cell BK121.out 3).trans rfl, (blk_cell BK121.out 4).trans rfl, (blk_cell BK121.out 5).trans rfl, (blk_cell BK121.out 6).trans rfl, (blk_cell BK121.out 7).trans rfl, (blk_cell BK121.out 8).trans rfl, (blk_cell BK121.out 9).trans rfl, (blk_cell BK121.out 10).trans rfl, (blk_cell BK121.out 11).trans rfl, (blk_cell BK121.out 12).trans rfl, (blk_cell BK121.out 13).trans rfl, (blk_cell BK121.out 14).trans rfl, (blk_cell BK121.out 15).trans rfl, (blk_cell BK121.out 16).trans rfl, (blk_cell BK121.out 17).trans rfl, (blk_cell BK121.out 18).trans rfl, (blk_cell BK121.out 19).trans rfl, (blk_cell BK121.out 20).trans rfl, (blk_cell BK121.out 21).trans rfl, (blk_cell BK121.out 22).trans rfl⟩ (fun hHeld => ?_)
     clear hK K
     refine norm_ (a' := ?_) ?_ ?_
     rotate_left
     ·
      show Act.put _ (some 66) _ = _
      simp only [Act.put, List.setIfInBounds_toArray, List.set_cons_zero, List.set_cons_succ, i64_w, i32_w]
      rfl
     refine pure_ (i := 11) (N := some 3) (v := ?_) (a' := ?_) (bb 12 4095) rfl rfl (any_of HT_.out (by kernel_rfl)) (fun _ _ _ h => h) (Or.inl ⟨by rfl, ?_⟩) ?_ ?_
     rotate_left
     ·
      intro w'
      go_simp
      with_reducible rfl
     rotate_left
     ·
      simp only [Act.put, List.setIfInBounds_toArray, List.set_cons_zero, List.set_cons_succ, i64_w, i32_w]
      rfl
     refine done_ (done_of HT_.out (by kernel_rfl)) ?_
     have hcz86_0 : w85.cell? ⟨gb121, 0, none⟩ = some (.int .i64 a0_0) := (blk_cell BK121.out 0).trans rfl
     have hcz86_1 : w85.cell? ⟨gb121, 1, none⟩ = some (.int .i64 a0_1) := (blk_cell BK121.out 1).trans rfl
     have hcz86_2 : w85.cell? ⟨gb121, 2, none⟩ = some (.int .i64 a0_2) := (blk_cell BK121.out 2).trans rfl
     have hcz86_3 : w85.cell? ⟨gb121, 3, none⟩ = some (.int .i64 a0_3) := (blk_cell BK121.out 3).trans rfl
     have hcz86_4 : w85.cell? ⟨gb121, 4, none⟩ = some (.int .u8 a0_4) := (blk_cell BK121.out 4).trans rfl
     have hcz86_5 : w85.cell? ⟨gb121, 5, none⟩ = some (.int .u8 a0_5) := (blk_cell BK121.out 5).trans rfl
     have hcz86_6 : w85.cell? ⟨gb121, 6, none⟩ = some (.int .i64 a0_6) := (blk_cell BK121.out 6).trans rfl
     have hcz86_7 : w85.cell? ⟨gb121, 7, none⟩ = some (.int .u32 a0_7) := (blk_cell BK121.out 7).trans rfl
     have hcz86_8 : w85.cell? ⟨gb121, 8, none⟩ = some (.int .u16 a0_8) := (blk_cell BK121.out 8).trans rfl
     have hcz86_9 : w85.cell? ⟨gb121, 9, none⟩ = some (.int .i64 a0_9) := (blk_cell BK121.out 9).trans rfl
     have hcz86_10 : w85.cell? ⟨gb121, 10, none⟩ = some (.int .i64 a0_10) := (blk_cell BK121.out 10).trans rfl
     have hcz86_11 : w85.cell? ⟨gb121, 11, none⟩ = some (.int .i64 a0_11) := (blk_cell BK121.out 11).trans rfl
     have hcz86_12 : w85.cell? ⟨gb121, 12, none⟩ = some (.int .u64 a0_12) := (blk_cell BK121.out 12).trans rfl
     have hcz86_13 : w85.cell? ⟨gb121, 13, none⟩ = some (.int .u64 a0_13) := (blk_cell BK121.out 13).trans rfl
     have hcz86_14 : w85.cell? ⟨gb121, 14, none⟩ = some (.slice A0_14 l0_14.length c0_14) := (blk_cell BK121.out 14).trans rfl
     have hcz86_15 : w85.cell? ⟨gb121, 15, none⟩ = some (.int .u64 a0_15) := (blk_cell BK121.out 15).trans rfl
     have hcz86_16 : w85.cell? ⟨gb121, 16, none⟩ = some (.int .i64 a0_16) := (blk_cell BK121.out 16).trans rfl
     have hcz86_17 : w85.cell? ⟨gb121, 17, none⟩ = some (.int .u8 a0_17) := (blk_cell BK121.out 17).trans rfl
     have hcz86_18 : w85.cell? ⟨gb121, 18, none⟩ = some (.int .i64 a0_18) := (blk_cell BK121.out 18).trans rfl
     have hcz86_19 : w85.cell? ⟨gb121, 19, none⟩ = some (.slice A0_19 l0_19.length c0_19) := (blk_cell BK121.out 19).trans rfl
     have hcz86_20 : w85.cell? ⟨gb121, 20, none⟩ = some (.int .i64 a0_20) := (blk_cell BK121.out 20).trans rfl
     have hcz86_21 : w85.cell? ⟨gb121, 21, none⟩ = some (.int .i64 a0_21) := (blk_cell BK121.out 21).trans rfl
     have hcz86_22 : w85.cell? ⟨gb121, 22, none⟩ = some (.slice A0_22 l0_22.length c0_22) := (blk_cell BK121.out 22).trans rfl
     have hfz86_0 := blk_frozen BK121.out 0
     have hfz86_1 := blk_frozen BK121.out 1
     have hfz86_2 := blk_frozen BK121.out 2
     have hfz86_3 := blk_frozen BK121.out 3
     have hfz86_4 := blk_frozen BK121.out 4
     have hfz86_5 := blk_frozen BK121.out 5
     have hfz86_6 := blk_frozen BK121.out 6
     have hfz86_7 := blk_frozen BK121.out 7
     have hfz86_8 := blk_frozen BK121.out 8
     have hfz86_9 := blk_frozen BK121.out 9
     have hfz86_10 := blk_frozen BK121.out 10
     have hfz86_11 := blk_frozen BK121.out 11
     have hfz86_12 := blk_frozen BK121.out 12
     have hfz86_13 := blk_frozen BK121.out 13
     have hfz86_14 := blk_frozen BK121.out 14
     have hfz86_15 := blk_frozen BK121.out 15
     have hfz86_16 := blk_frozen BK121.out 16
     have hfz86_17 := blk_frozen BK121.out 17
     have hfz86_18 := blk_frozen BK121.out 18
     have hfz86_19 := blk_frozen BK121.out 19
     have hfz86_20 := blk_frozen BK121.out 20
     have hfz86_21 := blk_frozen BK121.out 21
     have hfz86_22 := blk_frozen BK121.out 22
     go_upto_if 71 with (fail)
     go_cut [3] (fun v3 wc => ∃ (kq : Nat) (x3_66 : ByteArray), v3 = .string x3_66 ∧ Aside0 (tell_Mark.j0 kq x3_66 a0_0 a0_1 a0_2 a0_3 a0_4 a0_5 a0_6 a0_7 a0_8 a0_9 a0_10 a0_11 a0_12 a0_13 l0_14 a0_15 a0_16 a0_17 a0_18 l0_19 a0_20 a0_21 l0_22 = some r) ∧ Aside0 (kq ≤ k) ∧ Aside0 (wc.heap[gb121]? = some (.cells #[.int .i64 a0_0, .int .i64 a0_1, .int .i64 a0_2, .int .i64 a0_3, .int .u8 a0_4, .int .u8 a0_5, .int .i64 a0_6, .int .u32 a0_7, .int .u16 a0_8, .int .i64 a0_9, .int .i64 a0_10, .int .i64 a0_11, .int .u64 a0_12, .int .u64 a0_13, (.slice A0_14 l0_14.length c0_14), .int .u64 a0_15, .int .i64 a0_16, .int .u8 a0_17, .int .i64 a0_18, (.slice A0_19 l0_19.length c0_19), .int .i64 a0_20, .int .i64 a0_21, (.slice A0_22 l0_22.length c0_22)] 35 (0, 0))) ∧ Aside0 (Below w.heap.size w wc))
     case first =>
      have H := HC67.out
      clear HC67
      by_cases c87 : (Go.bits .and .u8 a0_17 1) = 0
      ·
       rw [if_pos c87] at H
       have c87b0 : ((Go.bits .and .u8 a0_17 1) == 0) = true := beq_iff_eq.mpr c87
       have c87b1 : ((Go.bits .and .u8 a0_17 1) != 0) = false := bne_eq_false_iff_eq.mpr c87
       clear c87
       (first | rw [c87b0] | (simp only [i64_w, i32_w]; rw [c87b0]) | skip)
       have H' := Aside0.mk H
       clear H
       go_wp2
       go_meet
       case rel => exact ⟨_, (t152), (by first | rfl | (simp; done) | (simp [*]; done)), H', ⟨by first | omega | exact Nat.le_refl _⟩, ⟨by (with_reducible repeat (first | refine blk_drewN ?_ _ | refine blk_drew ?_ | refine blk_alloc ?_ _)); exact BK121.out⟩, ⟨by repeat (first | (with_reducible first | exact HB.out | apply below_alloc | apply pw_below_drewN | apply below_drew1 | refine below_set ?_ GE121.out) | exact HB.out)⟩⟩
      ·
       rw [if_neg c87] at H
       have c87b0 : ((Go.bits .and .u8 a0_17 1) == 0) = false := beq_eq_false_iff_ne.mpr c87
       have c87b1 : ((Go.bits .and .u8 a0_17 1) != 0) = true := bne_iff_ne.mpr c87
       (first | rw [c87b0] | (simp only [i64_w, i32_w]; rw [c87b0]) | skip)
       obtain ⟨y153, hy153⟩ : ∃ y_ : List ByteArray, y_ = (([t152, (⟨#[109, 111, 114, 101]⟩ : ByteArray)] : List ByteArray)) := ⟨_, rfl⟩
       replace H : ((tell_words.f y153).bind fun t156 => (tell_Mark.j0 k t156 a0_0 a0_1 a0_2 a0_3 a0_4 a0_5 a0_6 a0_7 a0_8 a0_9 a0_10 a0_11 a0_12 a0_13 l0_14 a0_15 a0_16 a0_17 a0_18 l0_19 a0_20 a0_21 l0_22)) = some r := by first | (rw [hy153]; with_reducible exact H) | (have H2_ := (Option.bind_some _ _).symm.trans H; rw [hy153]; with_reducible exact H2_) | (have H2_ := (Option.bind_some _ _).symm.trans H; with_reducible exact H2_) | with_reducible exact H | (rw [hy153]; exact H) | exact H
       have Ny153 := Aside0.mk hy153
       clear hy153
       replace H := Option.bind_eq_some_iff.mp H
       obtain ⟨t156, A880, H⟩ := H
       replace H : (tell_Mark.j0 k t156 a0_0 a0_1 a0_2 a0_3 a0_4 a0_5 a0_6 a0_7 a0_8 a0_9 a0_10 a0_11 a0_12 a0_13 l0_14 a0_15 a0_16 a0_17 a0_18 l0_19 a0_20 a0_21 l0_22) = some r := H
       have A88 := Aside0.mk A880
       clear A880
       have H' := Aside0.mk H
       clear H
       go_wp2_with (first | ((with_reducible refine gate_dst (N := 73) rfl ?_); refine Kd.R_lit Kd.string _ 9 ?hg (N := 73) ?hd (xs := ([t152, (⟨#[109, 111, 114, 101]⟩ : ByteArray)] : List ByteArray)) (inner := [.string t152, .string (⟨#[109, 111, 114, 101]⟩ : ByteArray)]) (ok := fun _ => True) (okp := fun _ => True) ?hr ?hp (fun _ hk => hk) trivial (Below.refl _ _) (Nat.le_refl _) (by simp) ?_; (case hd => rfl); (case hg => rfl); (case hr => first | (go_simp; done) | (go_simp; rfl)); (case hp => exact (Reps.one (show Kd.M Kd.string _ _ _ t152 [.string t152] from rfl) (Reps.one (show Kd.M Kd.string _ _ _ (⟨#[109, 111, 114, 101]⟩ : ByteArray) [.string (⟨#[109, 111, 114, 101]⟩ : ByteArray)] from rfl) (Reps.none _ _)))); intro v154 w89 ho90 hb hg_ hnew_; clear hg_ hnew_; (first | rw [← Ny153.out] at ho90 | (simp only [Int.reduceToNat] at ho90; rw [← Ny153.out] at ho90)); have n0_ := Aside0.mk (Kd.R_elder' (by (with_reducible repeat (first | apply Kd.R_alloc | apply Kd.R_drewN | apply Kd.R_drew)); exact HO133.out) (Kd.R_base ho90) hb); have n1_ := Aside0.mk (Kd.R_elder' (by (with_reducible repeat (first | apply Kd.R_alloc | apply Kd.R_drewN | apply Kd.R_drew)); exact HO151.out) (Kd.R_base ho90) hb); have n2_ := Aside0.mk (Kd.R_lower (Kd.R_new' (Kd.R_new' ho90 (Kd.R_lt (by (with_reducible repeat (first | apply Kd.R_alloc | apply Kd.R_drewN | apply Kd.R_drew)); exact HO133.out))) (Kd.R_lt (by (with_reducible repeat (first | apply Kd.R_alloc | apply Kd.R_drewN | apply Kd.R_drew)); exact HO151.out))) (below_size (by repeat (first | (with_reducible first | exact HB.out | apply below_alloc | apply pw_below_drewN | apply below_drew1 | refine below_set ?_ GE121.out) | exact HB.out)))); have n3_ := Aside0.mk (blk_below (g := gb121) (o := .cells #[.int .i64 a0_0, .int .i64 a0_1, .int .i64 a0_2, .int .i64 a0_3, .int .u8 a0_4, .int .u8 a0_5, .int .i64 a0_6, .int .u32 a0_7, .int .u16 a0_8, .int .i64 a0_9, .int .i64 a0_10, .int .i64 a0_11, .int .u64 a0_12, .int .u64 a0_13, .slice A0_14 l0_14.length c0_14, .int .u64 a0_15, .int .i64 a0_16, .int .u8 a0_17, .int .i64 a0_18, .slice A0_19 l0_19.length c0_19, .int .i64 a0_20, .int .i64 a0_21, .slice A0_22 l0_22.length c0_22] 35 (0, 0)) (by (with_reducible repeat (first | refine blk_drewN ?_ _ | refine blk_drew ?_ | refine blk_alloc ?_ _)); exact BK121.out) hb); have n4_ := Aside0.mk (below_step (by repeat (first | (with_reducible first | exact HB.out | apply below_alloc | apply pw_below_drewN | apply below_drew1 | refine below_set ?_ GE121.out) | exact HB.out)) hb); clear HO133; clear HO151; clear BK121; clear HB; have HO133 := n0_; have HO151 := n1_; have HO155 := n2_; have BK121 := n3_; have HB := n4_; clear n0_ n1_ n2_ n3_ n4_; clear hb ho90; (try (obtain ⟨Ao91, co91, eo91⟩ := Kd.R_slice HO155.out; subst eo91))) | ((with_reducible refine gate_callee (f := 56) rfl ?_); refine goesL_ (some 74) rfl rfl Tryd.func56 (by kernel_rfl) rfl #[.slice Ao91 y153.length co91] rfl (by (try simp only [List.map_toArray, List.map_cons, List.map_nil]); first | done | rfl | (simp only [List.length_drop, List.length_take]; rfl) | (go_simp; done) | (go_simp; omega)) ?_; (with_reducible refine (tell_words.calls _ _ y153 t156 _ ?side1 ?side2 A88.out).mono ?_); (case side1 => repeat (first | exact (Kd.R_reads' HO155.out).2.2 | (with_reducible refine Kd.C_alloc ?_ _) | (with_reducible refine Kd.C_drewN ?_ _) | (with_reducible refine Kd.C_drew ?_))); (case side2 => exact (Kd.R_reads' HO155.out).2.1); rintro e w92 ⟨rfl, hb⟩; refine ⟨_, rfl, ?_⟩; have n0_ := Aside0.mk (Kd.R_below (by (with_reducible repeat (first | apply Kd.R_alloc | apply Kd.R_drewN | apply Kd.R_drew)); exact HO133.out) hb); have n1_ := Aside0.mk (Kd.R_below (by (with_reducible repeat (first | apply Kd.R_alloc | apply Kd.R_drewN | apply Kd.R_drew)); exact HO151.out) hb); have n2_ := Aside0.mk (Kd.R_below (by (with_reducible repeat (first | apply Kd.R_alloc | apply Kd.R_drewN | apply Kd.R_drew)); exact HO155.out) hb); have n3_ := Aside0.mk (blk_below (g := gb121) (o := .cells #[.int .i64 a0_0, .int .i64 a0_1, .int .i64 a0_2, .int .i64 a0_3, .int .u8 a0_4, .int .u8 a0_5, .int .i64 a0_6, .int .u32 a0_7, .int .u16 a0_8, .int .i64 a0_9, .int .i64 a0_10, .int .i64 a0_11, .int .u64 a0_12, .int .u64 a0_13, .slice A0_14 l0_14.length c0_14, .int .u64 a0_15, .int .i64 a0_16, .int .u8 a0_17, .int .i64 a0_18, .slice A0_19 l0_19.length c0_19, .int .i64 a0_20, .int .i64 a0_21, .slice A0_22 l0_22.length c0_22] 35 (0, 0)) (by (with_reducible repeat (first | refine blk_drewN ?_ _ | refine blk_drew ?_ | refine blk_alloc ?_ _)); exact BK121.out) hb); have n4_ := Aside0.mk (below_step (by repeat (first | (with_reducible first | exact HB.out | apply below_alloc | apply pw_below_drewN | apply below_drew1 | refine below_set ?_ GE121.out) | exact HB.out)) hb); clear HO133; clear HO151; clear HO155; clear BK121; clear HB; have HO133 := n0_; have HO151 := n1_; have HO155 := n2_; have BK121 := n3_; have HB := n4_; clear n0_ n1_ n2_ n3_ n4_; (try clear hb); (try clear hb2); (try clear hk); (try clear hi)))
       go_meet
       case rel => exact ⟨_, (t156), (by first | rfl | (simp; done) | (simp [*]; done)), H', ⟨by first | omega | exact Nat.le_refl _⟩, ⟨by (with_reducible repeat (first | refine blk_drewN ?_ _ | refine blk_drew ?_ | refine blk_alloc ?_ _)); exact BK121.out⟩, ⟨by repeat (first | (with_reducible first | exact HB.out | apply below_alloc | apply pw_below_drewN | apply below_drew1 | refine below_set ?_ GE121.out) | exact HB.out)⟩⟩
     case rest =>
      clear HC67
      try clear c1
      try clear p2
      try clear c4
      try clear c5
      try clear c6
      try clear c8
      try clear c15
      try clear c41
      try clear c41b0
      try clear c41b1
      try clear c56
      try clear c57
      try clear c59
      try clear c63
      try clear c63b0
      try clear c63b1
      try clear c87
      try clear c87b0
      try clear c87b1
      try clear hcz69_0
      try clear hcz69_1
      try clear hcz69_10
      try clear hcz69_11
      try clear hcz69_12
      try clear hcz69_13
      try clear hcz69_14
      try clear hcz69_15
      try clear hcz69_16
      try clear hcz69_17
      try clear hcz69_18
      try clear hcz69_19
      try clear hcz69_2
      try clear hcz69_20
      try clear hcz69_21
      try clear hcz69_22
      try clear hcz69_3
      try clear hcz69_4
      try clear hcz69_5
      try clear hcz69_6
      try clear hcz69_7
      try clear hcz69_8
      try clear hcz69_9
      try clear hcz78_0
      try clear hcz78_1
      try clear hcz78_10
      try clear hcz78_11
      try clear hcz78_12
      try clear hcz78_13
      try clear hcz78_14
      try clear hcz78_15
      try clear hcz78_16
      try clear hcz78_17
      try clear hcz78_18
      try clear hcz78_19
      try clear hcz78_2
      try clear hcz78_20
      try clear hcz78_21
      try clear hcz78_22
      try clear hcz78_3
      try clear hcz78_4
      try clear hcz78_5
      try clear hcz78_6
      try clear hcz78_7
      try clear hcz78_8
      try clear hcz78_9
      try clear hcz86_0
      try clear hcz86_1
      try clear hcz86_10
      try clear hcz86_11
      try clear hcz86_12
      try clear hcz86_13
      try clear hcz86_14
      try clear hcz86_15
      try clear hcz86_16
      try clear hcz86_17
      try clear hcz86_18
      try clear hcz86_19
      try clear hcz86_2
      try clear hcz86_20
      try clear hcz86_21
      try clear hcz86_22
      try clear hcz86_3
      try clear hcz86_4
      try clear hcz86_5
      try clear hcz86_6
      try clear hcz86_7
      try clear hcz86_8
      try clear hcz86_9
      try clear hfz69_0
      try clear hfz69_1
      try clear hfz69_10
      try clear hfz69_11
      try clear hfz69_12
      try clear hfz69_13
      try clear hfz69_14
      try clear hfz69_15
      try clear hfz69_16
      try clear hfz69_17
      try clear hfz69_18
      try clear hfz69_19
      try clear hfz69_2
      try clear hfz69_20
      try clear hfz69_21
      try clear hfz69_22
      try clear hfz69_3
      try clear hfz69_4
      try clear hfz69_5
      try clear hfz69_6
      try clear hfz69_7
      try clear hfz69_8
      try clear hfz69_9
      try clear hfz78_0
      try clear hfz78_1
      try clear hfz78_10
      try clear hfz78_11
      try clear hfz78_12
      try clear hfz78_13
      try clear hfz78_14
      try clear hfz78_15
      try clear hfz78_16
      try clear hfz78_17
      try clear hfz78_18
      try clear hfz78_19
      try clear hfz78_2
      try clear hfz78_20
      try clear hfz78_21
      try clear hfz78_22
      try clear hfz78_3
      try clear hfz78_4
      try clear hfz78_5
      try clear hfz78_6
      try clear hfz78_7
      try clear hfz78_8
      try clear hfz78_9
      try clear hfz86_0
      try clear hfz86_1
      try clear hfz86_10
      try clear hfz86_11
      try clear hfz86_12
      try clear hfz86_13
      try clear hfz86_14
      try clear hfz86_15
      try clear hfz86_16
      try clear hfz86_17
      try clear hfz86_18
      try clear hfz86_19
      try clear hfz86_2
      try clear hfz86_20
      try clear hfz86_21
      try clear hfz86_22
      try clear hfz86_3
      try clear hfz86_4
      try clear hfz86_5
      try clear hfz86_6
      try clear hfz86_7
      try clear hfz86_8
      try clear hfz86_9
      obtain ⟨kq, x3_66, rfl, HA, HJ66, BK121, HB⟩ := hcut
      cases kq with
      | zero => exact absurd HA.out (by simp [tell_Mark.j0])
      | succ kj66 =>
       have H := HA.out
       clear HA
       simp only [tell_Mark.j0] at H
       by_cases c93 : (Go.bits .and .u8 a0_17 2) = 0
       ·
        rw [if_pos c93] at H
        have c93b0 : ((Go.bits .and .u8 a0_17 2) == 0) = true := beq_iff_eq.mpr c93
        have c93b1 : ((Go.bits .and .u8 a0_17 2) != 0) = false := bne_eq_false_iff_eq.mpr c93
        clear c93
        obtain rfl := Option.some.inj H
        have hcz94_0 : wc.cell? ⟨gb121, 0, none⟩ = some (.int .i64 a0_0) := (blk_cell BK121.out 0).trans rfl
        have hcz94_1 : wc.cell? ⟨gb121, 1, none⟩ = some (.int .i64 a0_1) := (blk_cell BK121.out 1).trans rfl
        have hcz94_2 : wc.cell? ⟨gb121, 2, none⟩ = some (.int .i64 a0_2) := (blk_cell BK121.out 2).trans rfl
        have hcz94_3 : wc.cell? ⟨gb121, 3, none⟩ = some (.int .i64 a0_3) := (blk_cell BK121.out 3).trans rfl
        have hcz94_4 : wc.cell? ⟨gb121, 4, none⟩ = some (.int .u8 a0_4) := (blk_cell BK121.out 4).trans rfl
        have hcz94_5 : wc.cell? ⟨gb121, 5, none⟩ = some (.int .u8 a0_5) := (blk_cell BK121.out 5).trans rfl
        have hcz94_6 : wc.cell? ⟨gb121, 6, none⟩ = some (.int .i64 a0_6) := (blk_cell BK121.out 6).trans rfl
        have hcz94_7 : wc.cell? ⟨gb121, 7, none⟩ = some (.int .u32 a0_7) := (blk_cell BK121.out 7).trans rfl
        have hcz94_8 : wc.cell? ⟨gb121, 8, none⟩ = some (.int .u16 a0_8) := (blk_cell BK121.out 8).trans rfl
        have hcz94_9 : wc.cell? ⟨gb121, 9, none⟩ = some (.int .i64 a0_9) := (blk_cell BK121.out 9).trans rfl
        have hcz94_10 : wc.cell? ⟨gb121, 10, none⟩ = some (.int .i64 a0_10) := (blk_cell BK121.out 10).trans rfl
        have hcz94_11 : wc.cell? ⟨gb121, 11, none⟩ = some (.int .i64 a0_11) := (blk_cell BK121.out 11).trans rfl
        have hcz94_12 : wc.cell? ⟨gb121, 12, none⟩ = some (.int .u64 a0_12) := (blk_cell BK121.out 12).trans rfl
        have hcz94_13 : wc.cell? ⟨gb121, 13, none⟩ = some (.int .u64 a0_13) := (blk_cell BK121.out 13).trans rfl
        have hcz94_14 : wc.cell? ⟨gb121, 14, none⟩ = some (.slice A0_14 l0_14.length c0_14) := (blk_cell BK121.out 14).trans rfl
        have hcz94_15 : wc.cell? ⟨gb121, 15, none⟩ = some (.int .u64 a0_15) := (blk_cell BK121.out 15).trans rfl
        have hcz94_16 : wc.cell? ⟨gb121, 16, none⟩ = some (.int .i64 a0_16) := (blk_cell BK121.out 16).trans rfl
        have hcz94_17 : wc.cell? ⟨gb121, 17, none⟩ = some (.int .u8 a0_17) := (blk_cell BK121.out 17).trans rfl
        have hcz94_18 : wc.cell? ⟨gb121, 18, none⟩ = some (.int .i64 a0_18) := (blk_cell BK121.out 18).trans rfl
        have hcz94_19 : wc.cell? ⟨gb121, 19, none⟩ = some (.slice A0_19 l0_19.length c0_19) := (blk_cell BK121.out 19).trans rfl
        have hcz94_20 : wc.cell? ⟨gb121, 20, none⟩ = some (.int .i64 a0_20) := (blk_cell BK121.out 20).trans rfl
        have hcz94_21 : wc.cell? ⟨gb121, 21, none⟩ = some (.int .i64 a0_21) := (blk_cell BK121.out 21).trans rfl
        have hcz94_22 : wc.cell? ⟨gb121, 22, none⟩ = some (.slice A0_22 l0_22.length c0_22) := (blk_cell BK121.out 22).trans rfl
        have hfz94_0 := blk_frozen BK121.out 0
        have hfz94_1 := blk_frozen BK121.out 1
        have hfz94_2 := blk_frozen BK121.out 2
        have hfz94_3 := blk_frozen BK121.out 3
        have hfz94_4 := blk_frozen BK121.out 4
        have hfz94_5 := blk_frozen BK121.out 5
        have hfz94_6 := blk_frozen BK121.out 6
        have hfz94_7 := blk_frozen BK121.out 7
        have hfz94_8 := blk_frozen BK121.out 8
        have hfz94_9 := blk_frozen BK121.out 9
        have hfz94_10 := blk_frozen BK121.out 10
        have hfz94_11 := blk_frozen BK121.out 11
        have hfz94_12 := blk_frozen BK121.out 12
        have hfz94_13 := blk_frozen BK121.out 13
        have hfz94_14 := blk_frozen BK121.out 14
        have hfz94_15 := blk_frozen BK121.out 15
        have hfz94_16 := blk_frozen BK121.out 16
        have hfz94_17 := blk_frozen BK121.out 17
        have hfz94_18 := blk_frozen BK121.out 18
        have hfz94_19 := blk_frozen BK121.out 19
        have hfz94_20 := blk_frozen BK121.out 20
        have hfz94_21 := blk_frozen BK121.out 21
        have hfz94_22 := blk_frozen BK121.out 22
        go_wp2
        go_ret
        exact ⟨by first | rfl | (simp [errW_none, errW_some] <;> rfl) | (simp [*, errW_none, errW_some] <;> rfl), by repeat (first | (with_reducible first | exact HB.out | apply below_alloc | apply pw_below_drewN | apply below_drew1 | refine below_set ?_ GE121.out) | exact HB.out)⟩
       ·
        rw [if_neg c93] at H
        have c93b0 : ((Go.bits .and .u8 a0_17 2) == 0) = false := beq_eq_false_iff_ne.mpr c93
        have c93b1 : ((Go.bits .and .u8 a0_17 2) != 0) = true := bne_iff_ne.mpr c93
        replace H := Option.bind_eq_some_iff.mp H
        obtain ⟨t157, A950, H⟩ := H
        replace H : ((tell_words.f (([x3_66, (⟨#[98, 117, 102]⟩ : ByteArray), t157] : List ByteArray))).bind fun t161 => (some t161)) = some r := H
        have A95 := Aside0.mk A950
        clear A950
        obtain ⟨y158, hy158⟩ : ∃ y_ : List ByteArray, y_ = (([x3_66, (⟨#[98, 117, 102]⟩ : ByteArray), t157] : List ByteArray)) := ⟨_, rfl⟩
        replace H : ((tell_words.f y158).bind fun t161 => (some t161)) = some r := by first | (rw [hy158]; with_reducible exact H) | (have H2_ := (Option.bind_some _ _).symm.trans H; rw [hy158]; with_reducible exact H2_) | (have H2_ := (Option.bind_some _ _).symm.trans H; with_reducible exact H2_) | with_reducible exact H | (rw [hy158]; exact H) | exact H
        have Ny158 := Aside0.mk hy158
        clear hy158
        replace H := Option.bind_eq_some_iff.mp H
        obtain ⟨t161, A960, H⟩ := H
        replace H : (some t161) = some r := H
        have A96 := Aside0.mk A960
        clear A960
        obtain rfl := Option.some.inj H
        have hcz97_0 : wc.cell? ⟨gb121, 0, none⟩ = some (.int .i64 a0_0) := (blk_cell BK121.out 0).trans rfl
        have hcz97_1 : wc.cell? ⟨gb121, 1, none⟩ = some (.int .i64 a0_1) := (blk_cell BK121.out 1).trans rfl
        have hcz97_2 : wc.cell? ⟨gb121, 2, none⟩ = some (.int .i64 a0_2) := (blk_cell BK121.out 2).trans rfl
        have hcz97_3 : wc.cell? ⟨gb121, 3, none⟩ = some (.int .i64 a0_3) := (blk_cell BK121.out 3).trans rfl
        have hcz97_4 : wc.cell? ⟨gb121, 4, none⟩ = some (.int .u8 a0_4) := (blk_cell BK121.out 4).trans rfl
        have hcz97_5 : wc.cell? ⟨gb121, 5, none⟩ = some (.int .u8 a0_5) := (blk_cell BK121.out 5).trans rfl
        have hcz97_6 : wc.cell? ⟨gb121, 6, none⟩ = some (.int .i64 a0_6) := (blk_cell BK121.out 6).trans rfl
        have hcz97_7 : wc.cell? ⟨gb121, 7, none⟩ = some (.int .u32 a0_7) := (blk_cell BK121.out 7).trans rfl
        have hcz97_8 : wc.cell? ⟨gb121, 8, none⟩ = some (.int .u16 a0_8) := (blk_cell BK121.out 8).trans rfl
        have hcz97_9 : wc.cell? ⟨gb121, 9, none⟩ = some (.int .i64 a0_9) := (blk_cell BK121.out 9).trans rfl
        have hcz97_10 : wc.cell? ⟨gb121, 10, none⟩ = some (.int .i64 a0_10) := (blk_cell BK121.out 10).trans rfl
        have hcz97_11 : wc.cell? ⟨gb121, 11, none⟩ = some (.int .i64 a0_11) := (blk_cell BK121.out 11).trans rfl
        have hcz97_12 : wc.cell? ⟨gb121, 12, none⟩ = some (.int .u64 a0_12) := (blk_cell BK121.out 12).trans rfl
        have hcz97_13 : wc.cell? ⟨gb121, 13, none⟩ = some (.int .u64 a0_13) := (blk_cell BK121.out 13).trans rfl
        have hcz97_14 : wc.cell? ⟨gb121, 14, none⟩ = some (.slice A0_14 l0_14.length c0_14) := (blk_cell BK121.out 14).trans rfl
        have hcz97_15 : wc.cell? ⟨gb121, 15, none⟩ = some (.int .u64 a0_15) := (blk_cell BK121.out 15).trans rfl
        have hcz97_16 : wc.cell? ⟨gb121, 16, none⟩ = some (.int .i64 a0_16) := (blk_cell BK121.out 16).trans rfl
        have hcz97_17 : wc.cell? ⟨gb121, 17, none⟩ = some (.int .u8 a0_17) := (blk_cell BK121.out 17).trans rfl
        have hcz97_18 : wc.cell? ⟨gb121, 18, none⟩ = some (.int .i64 a0_18) := (blk_cell BK121.out 18).trans rfl
        have hcz97_19 : wc.cell? ⟨gb121, 19, none⟩ = some (.slice A0_19 l0_19.length c0_19) := (blk_cell BK121.out 19).trans rfl
        have hcz97_20 : wc.cell? ⟨gb121, 20, none⟩ = some (.int .i64 a0_20) := (blk_cell BK121.out 20).trans rfl
        have hcz97_21 : wc.cell? ⟨gb121, 21, none⟩ = some (.int .i64 a0_21) := (blk_cell BK121.out 21).trans rfl
        have hcz97_22 : wc.cell? ⟨gb121, 22, none⟩ = some (.slice A0_22 l0_22.length c0_22) := (blk_cell BK121.out 22).trans rfl
        have hfz97_0 := blk_frozen BK121.out 0
        have hfz97_1 := blk_frozen BK121.out 1
        have hfz97_2 := blk_frozen BK121.out 2
        have hfz97_3 := blk_frozen BK121.out 3
        have hfz97_4 := blk_frozen BK121.out 4
        have hfz97_5 := blk_frozen BK121.out 5
        have hfz97_6 := blk_frozen BK121.out 6
        have hfz97_7 := blk_frozen BK121.out 7
        have hfz97_8 := blk_frozen BK121.out 8
        have hfz97_9 := blk_frozen BK121.out 9
        have hfz97_10 := blk_frozen BK121.out 10
        have hfz97_11 := blk_frozen BK121.out 11
        have hfz97_12 := blk_frozen BK121.out 12
        have hfz97_13 := blk_frozen BK121.out 13
        have hfz97_14 := blk_frozen BK121.out 14
        have hfz97_15 := blk_frozen BK121.out 15
        have hfz97_16 := blk_frozen BK121.out 16
        have hfz97_17 := blk_frozen BK121.out 17
        have hfz97_18 := blk_frozen BK121.out 18
        have hfz97_19 := blk_frozen BK121.out 19
        have hfz97_20 := blk_frozen BK121.out 20
        have hfz97_21 := blk_frozen BK121.out 21
        have hfz97_22 := blk_frozen BK121.out 22
        go_wp2_with (first | ((with_reducible refine gate_callee (f := 57) rfl ?_); refine goesL_ (some 84) rfl rfl Tryd.func57 (by kernel_rfl) rfl #[.int .i64 a0_18] rfl (by (try simp only [List.map_toArray, List.map_cons, List.map_nil]); first | done | rfl | (simp only [List.length_drop, List.length_take]; rfl) | (go_simp; done) | (go_simp; omega)) ?_; (with_reducible refine (tell_num.calls a0_18 t157 _ A95.out (ht := (by first | exact HT.out | exact Go.Proofs.YtcebnaknodghcaaDoor.HItoa.Tab.below HT.out (by repeat (first | (with_reducible first | exact HB.out | apply below_alloc | apply pw_below_drewN | apply below_drew1) | exact HB.out))))).mono ?_); rintro e w98 ⟨rfl, hb⟩; refine ⟨_, rfl, ?_⟩; have n0_ := Aside0.mk (blk_below (g := gb121) (o := .cells #[.int .i64 a0_0, .int .i64 a0_1, .int .i64 a0_2, .int .i64 a0_3, .int .u8 a0_4, .int .u8 a0_5, .int .i64 a0_6, .int .u32 a0_7, .int .u16 a0_8, .int .i64 a0_9, .int .i64 a0_10, .int .i64 a0_11, .int .u64 a0_12, .int .u64 a0_13, .slice A0_14 l0_14.length c0_14, .int .u64 a0_15, .int .i64 a0_16, .int .u8 a0_17, .int .i64 a0_18, .slice A0_19 l0_19.length c0_19, .int .i64 a0_20, .int .i64 a0_21, .slice A0_22 l0_22.length c0_22] 35 (0, 0)) (by (with_reducible repeat (first | refine blk_drewN ?_ _ | refine blk_drew ?_ | refine blk_alloc ?_ _)); exact BK121.out) hb); have n1_ := Aside0.mk (below_step (by repeat (first | (with_reducible first | exact HB.out | apply below_alloc | apply pw_below_drewN | apply below_drew1 | refine below_set ?_ GE121.out) | exact HB.out)) hb); clear BK121; clear HB; have BK121 := n0_; have HB := n1_; clear n0_ n1_; (try clear hb); (try clear hb2); (try clear hk); (try clear hi)) | ((with_reducible refine gate_dst (N := 85) rfl ?_); refine Kd.R_lit Kd.string _ 9 ?hg (N := 85) ?hd (xs := ([x3_66, (⟨#[98, 117, 102]⟩ : ByteArray), t157] : List ByteArray)) (inner := [.string x3_66, .string (⟨#[98, 117, 102]⟩ : ByteArray), .string t157]) (ok := fun _ => True) (okp := fun _ => True) ?hr ?hp (fun _ hk => hk) trivial (Below.refl _ _) (Nat.le_refl _) (by simp) ?_; (case hd => rfl); (case hg => rfl); (case hr => first | (go_simp; done) | (go_simp; rfl)); (case hp => exact (Reps.one (show Kd.M Kd.string _ _ _ x3_66 [.string x3_66] from rfl) (Reps.one (show Kd.M Kd.string _ _ _ (⟨#[98, 117, 102]⟩ : ByteArray) [.string (⟨#[98, 117, 102]⟩ : ByteArray)] from rfl) (Reps.one (show Kd.M Kd.string _ _ _ t157 [.string t157] from rfl) (Reps.none _ _))))); intro v159 w99 ho100 hb hg_ hnew_; clear hg_ hnew_; (first | rw [← Ny158.out] at ho100 | (simp only [Int.reduceToNat] at ho100; rw [← Ny158.out] at ho100)); have n0_ := Aside0.mk (Kd.R_lower ho100 (below_size (by repeat (first | (with_reducible first | exact HB.out | apply below_alloc | apply pw_below_drewN | apply below_drew1 | refine below_set ?_ GE121.out) | exact HB.out)))); have n1_ := Aside0.mk (blk_below (g := gb121) (o := .cells #[.int .i64 a0_0, .int .i64 a0_1, .int .i64 a0_2, .int .i64 a0_3, .int .u8 a0_4, .int .u8 a0_5, .int .i64 a0_6, .int .u32 a0_7, .int .u16 a0_8, .int .i64 a0_9, .int .i64 a0_10, .int .i64 a0_11, .int .u64 a0_12, .int .u64 a0_13, .slice A0_14 l0_14.length c0_14, .int .u64 a0_15, .int .i64 a0_16, .int .u8 a0_17, .int .i64 a0_18, .slice A0_19 l0_19.length c0_19, .int .i64 a0_20, .int .i64 a0_21, .slice A0_22 l0_22.length c0_22] 35 (0, 0)) (by (with_reducible repeat (first | refine blk_drewN ?_ _ | refine blk_drew ?_ | refine blk_alloc ?_ _)); exact BK121.out) hb); have n2_ := Aside0.mk (below_step (by repeat (first | (with_reducible first | exact HB.out | apply below_alloc | apply pw_below_drewN | apply below_drew1 | refine below_set ?_ GE121.out) | exact HB.out)) hb); clear BK121; clear HB; have HO160 := n0_; have BK121 := n1_; have HB := n2_; clear n0_ n1_ n2_; clear hb ho100; (try (obtain ⟨Ao101, co101, eo101⟩ := Kd.R_slice HO160.out; subst eo101))) | ((with_reducible refine gate_callee (f := 56) rfl ?_); refine goesL_ (some 86) rfl rfl Tryd.func56 (by kernel_rfl) rfl #[.slice Ao101 y158.length co101] rfl (by (try simp only [List.map_toArray, List.map_cons, List.map_nil]); first | done | rfl | (simp only [List.length_drop, List.length_take]; rfl) | (go_simp; done) | (go_simp; omega)) ?_; (with_reducible refine (tell_words.calls _ _ y158 t161 _ ?side1 ?side2 A96.out).mono ?_); (case side1 => repeat (first | exact (Kd.R_reads' HO160.out).2.2 | (with_reducible refine Kd.C_alloc ?_ _) | (with_reducible refine Kd.C_drewN ?_ _) | (with_reducible refine Kd.C_drew ?_))); (case side2 => exact (Kd.R_reads' HO160.out).2.1); rintro e w102 ⟨rfl, hb⟩; refine ⟨_, rfl, ?_⟩; have n0_ := Aside0.mk (Kd.R_below (by (with_reducible repeat (first | apply Kd.R_alloc | apply Kd.R_drewN | apply Kd.R_drew)); exact HO160.out) hb); have n1_ := Aside0.mk (blk_below (g := gb121) (o := .cells #[.int .i64 a0_0, .int .i64 a0_1, .int .i64 a0_2, .int .i64 a0_3, .int .u8 a0_4, .int .u8 a0_5, .int .i64 a0_6, .int .u32 a0_7, .int .u16 a0_8, .int .i64 a0_9, .int .i64 a0_10, .int .i64 a0_11, .int .u64 a0_12, .int .u64 a0_13, .slice A0_14 l0_14.length c0_14, .int .u64 a0_15, .int .i64 a0_16, .int .u8 a0_17, .int .i64 a0_18, .slice A0_19 l0_19.length c0_19, .int .i64 a0_20, .int .i64 a0_21, .slice A0_22 l0_22.length c0_22] 35 (0, 0)) (by (with_reducible repeat (first | refine blk_drewN ?_ _ | refine blk_drew ?_ | refine blk_alloc ?_ _)); exact BK121.out) hb); have n2_ := Aside0.mk (below_step (by repeat (first | (with_reducible first | exact HB.out | apply below_alloc | apply pw_below_drewN | apply below_drew1 | refine below_set ?_ GE121.out) | exact HB.out)) hb); clear HO160; clear BK121; clear HB; have HO160 := n0_; have BK121 := n1_; have HB := n2_; clear n0_ n1_ n2_; (try clear hb); (try clear hb2); (try clear hk); (try clear hi)))
        go_ret
        exact ⟨by first | rfl | (simp [errW_none, errW_some] <;> rfl) | (simp [*, errW_none, errW_some] <;> rfl), by repeat (first | (with_reducible first | exact HB.out | apply below_alloc | apply pw_below_drewN | apply below_drew1 | refine below_set ?_ GE121.out) | exact HB.out)⟩
    ·
     rw [if_neg c63] at H
     have c63b0 : (a0_0 == 2) = false := beq_eq_false_iff_ne.mpr c63
     have c63b1 : (a0_0 != 2) = true := bne_iff_ne.mpr c63
     obtain rfl := Option.some.inj H
     go_enter Tryd.func15, Tryd.ntmps15
     try go_wp2_with (first | ((with_reducible refine gate_dst (N := 1) rfl ?_); refine box_event ?hg (N := 1) ?hd (cs := #[.int .i64 a0_0, .int .i64 a0_1, .int .i64 a0_2, .int .i64 a0_3, .int .u8 a0_4, .int .u8 a0_5, .int .i64 a0_6, .int .u32 a0_7, .int .u16 a0_8, .int .i64 a0_9, .int .i64 a0_10, .int .i64 a0_11, .int .u64 a0_12, .int .u64 a0_13, .slice A0_14 l0_14.length c0_14, .int .u64 a0_15, .int .i64 a0_16, .int .u8 a0_17, .int .i64 a0_18, .slice A0_19 l0_19.length c0_19, .int .i64 a0_20, .int .i64 a0_21, .slice A0_22 l0_22.length c0_22]) (t := 35) ?hr ?_; (case hd => rfl); (case hg => rfl); (case hr => first | (go_simp; done) | (go_simp; rfl)); intro gb121 hg w103 hbox hb; have n0_ := Aside0.mk (below_step (by repeat (first | (with_reducible first | exact HB.out | apply below_alloc | apply pw_below_drewN | apply below_drew1) | exact HB.out)) hb); have n1_ := Aside0.mk (hbox); have n2_ := Aside0.mk ((by rw [hg]; exact (below_size (by repeat (first | (with_reducible first | exact HB.out | apply below_alloc | apply pw_below_drewN | apply below_drew1) | exact HB.out))) : w.heap.size ≤ gb121)); have n3_ := Aside0.mk ((by rw [hg]; exact (below_size (by repeat (first | (with_reducible first | exact HB.out | apply below_alloc | apply pw_below_drewN | apply below_drew1) | exact HB.out))) : w.heap.size ≤ gb121)); clear HB; have HB := n0_; have BK121 := n1_; have GW121 := n2_; have GE121 := n3_; clear n0_ n1_ n2_ n3_; clear hb hbox hg; have hcz104_0 : w103.cell? ⟨gb121, 0, none⟩ = some (.int .i64 a0_0) := (blk_cell BK121.out 0).trans rfl; have hcz104_1 : w103.cell? ⟨gb121, 1, none⟩ = some (.int .i64 a0_1) := (blk_cell BK121.out 1).trans rfl; have hcz104_2 : w103.cell? ⟨gb121, 2, none⟩ = some (.int .i64 a0_2) := (blk_cell BK121.out 2).trans rfl; have hcz104_3 : w103.cell? ⟨gb121, 3, none⟩ = some (.int .i64 a0_3) := (blk_cell BK121.out 3).trans rfl; have hcz104_4 : w103.cell? ⟨gb121, 4, none⟩ = some (.int .u8 a0_4) := (blk_cell BK121.out 4).trans rfl; have hcz104_5 : w103.cell? ⟨gb121, 5, none⟩ = some (.int .u8 a0_5) := (blk_cell BK121.out 5).trans rfl; have hcz104_6 : w103.cell? ⟨gb121, 6, none⟩ = some (.int .i64 a0_6) := (blk_cell BK121.out 6).trans rfl; have hcz104_7 : w103.cell? ⟨gb121, 7, none⟩ = some (.int .u32 a0_7) := (blk_cell BK121.out 7).trans rfl; have hcz104_8 : w103.cell? ⟨gb121, 8, none⟩ = some (.int .u16 a0_8) := (blk_cell BK121.out 8).trans rfl; have hcz104_9 : w103.cell? ⟨gb121, 9, none⟩ = some (.int .i64 a0_9) := (blk_cell BK121.out 9).trans rfl; have hcz104_10 : w103.cell? ⟨gb121, 10, none⟩ = some (.int .i64 a0_10) := (blk_cell BK121.out 10).trans rfl; have hcz104_11 : w103.cell? ⟨gb121, 11, none⟩ = some (.int .i64 a0_11) := (blk_cell BK121.out 11).trans rfl; have hcz104_12 : w103.cell? ⟨gb121, 12, none⟩ = some (.int .u64 a0_12) := (blk_cell BK121.out 12).trans rfl; have hcz104_13 : w103.cell? ⟨gb121, 13, none⟩ = some (.int .u64 a0_13) := (blk_cell BK121.out 13).trans rfl; have hcz104_14 : w103.cell? ⟨gb121, 14, none⟩ = some (.slice A0_14 l0_14.length c0_14) := (blk_cell BK121.out 14).trans rfl; have hcz104_15 : w103.cell? ⟨gb121, 15, none⟩ = some (.int .u64 a0_15) := (blk_cell BK121.out 15).trans rfl; have hcz104_16 : w103.cell? ⟨gb121, 16, none⟩ = some (.int .i64 a0_16) := (blk_cell BK121.out 16).trans rfl; have hcz104_17 : w103.cell? ⟨gb121, 17, none⟩ = some (.int .u8 a0_17) := (blk_cell BK121.out 17).trans rfl; have hcz104_18 : w103.cell? ⟨gb121, 18, none⟩ = some (.int .i64 a0_18) := (blk_cell BK121.out 18).trans rfl; have hcz104_19 : w103.cell? ⟨gb121, 19, none⟩ = some (.slice A0_19 l0_19.length c0_19) := (blk_cell BK121.out 19).trans rfl; have hcz104_20 : w103.cell? ⟨gb121, 20, none⟩ = some (.int .i64 a0_20) := (blk_cell BK121.out 20).trans rfl; have hcz104_21 : w103.cell? ⟨gb121, 21, none⟩ = some (.int .i64 a0_21) := (blk_cell BK121.out 21).trans rfl; have hcz104_22 : w103.cell? ⟨gb121, 22, none⟩ = some (.slice A0_22 l0_22.length c0_22) := (blk_cell BK121.out 22).trans rfl; have hfz104_0 := blk_frozen BK121.out 0; have hfz104_1 := blk_frozen BK121.out 1; have hfz104_2 := blk_frozen BK121.out 2; have hfz104_3 := blk_frozen BK121.out 3; have hfz104_4 := blk_frozen BK121.out 4; have hfz104_5 := blk_frozen BK121.out 5; have hfz104_6 := blk_frozen BK121.out 6; have hfz104_7 := blk_frozen BK121.out 7; have hfz104_8 := blk_frozen BK121.out 8; have hfz104_9 := blk_frozen BK121.out 9; have hfz104_10 := blk_frozen BK121.out 10; have hfz104_11 := blk_frozen BK121.out 11; have hfz104_12 := blk_frozen BK121.out 12; have hfz104_13 := blk_frozen BK121.out 13; have hfz104_14 := blk_frozen BK121.out 14; have hfz104_15 := blk_frozen BK121.out 15; have hfz104_16 := blk_frozen BK121.out 16; have hfz104_17 := blk_frozen BK121.out 17; have hfz104_18 := blk_frozen BK121.out 18; have hfz104_19 := blk_frozen BK121.out 19; have hfz104_20 := blk_frozen BK121.out 20; have hfz104_21 := blk_frozen BK121.out 21; have hfz104_22 := blk_frozen BK121.out 22))
     have n0_ := Aside0.mk (blk_drew BK121.out)
     have n1_ := Aside0.mk (below_drew1 HB.out)
     clear BK121
     clear HB
     have BK121 := n0_
     have HB := n1_
     clear n0_ n1_
     refine start_ (n := 12) (S := fun w' => w'.cell? ⟨gb121, 0, none⟩ = some (.int .i64 a0_0) ∧ w'.cell? ⟨gb121, 1, none⟩ = some (.int .i64 a0_1) ∧ w'.cell? ⟨gb121, 2, none⟩ = some (.int .i64 a0_2) ∧ w'.cell? ⟨gb121, 3, none⟩ = some (.int .i64 a0_3) ∧ w'.cell? ⟨gb121, 4, none⟩ = some (.int .u8 a0_4) ∧ w'.cell? ⟨gb121, 5, none⟩ = some (.int .u8 a0_5) ∧ w'.cell? ⟨gb121, 6, none⟩ = some (.int .i64 a0_6) ∧ w'.cell? ⟨gb121, 7, none⟩ = some (.int .u32 a0_7) ∧ w'.cell? ⟨gb121, 8, none⟩ = some (.int .u16 a0_8) ∧ w'.cell? ⟨gb121, 9, none⟩ = some (.int .i64 a0_9) ∧ w'.cell? ⟨gb121, 10, none⟩ = some (.int .i64 a0_10) ∧ w'.cell? ⟨gb121, 11, none⟩ = some (.int .i64 a0_11) ∧ w'.cell? ⟨gb121, 12, none⟩ = some (.int .u64 a0_12) ∧ w'.cell? ⟨gb121, 13, none⟩ = some (.int .u64 a0_13) ∧ w'.cell? ⟨gb121, 14, none⟩ = some (.slice A0_14 l0_14.length c0_14) ∧ w'.cell? ⟨gb121, 15, none⟩ = some (.int .u64 a0_15) ∧ w'.cell? ⟨gb121, 16, none⟩ = some (.int .i64 a0_16) ∧ w'.cell? ⟨gb121, 17, none⟩ = some (.int .u8 a0_17) ∧ w'.cell? ⟨gb121, 18, none⟩ = some (.int .i64 a0_18) ∧ w'.cell? ⟨gb121, 19, none⟩ = some (.slice A0_19 l0_19.length c0_19) ∧ w'.cell? ⟨gb121, 20, none⟩ = some (.int .i64 a0_20) ∧ w'.cell? ⟨gb121, 21, none⟩ = some (.int .i64 a0_21) ∧ w'.cell? ⟨gb121, 22, none⟩ = some (.slice A0_22 l0_22.length c0_22)) (ds := []) (bb 12 0) (by kernel_rfl) rfl rfl ⟨(blk_cell BK121.out 0).trans rfl, (blk_cell BK121.out 1).trans rfl, (blk_cell BK121.out 2).trans rfl, (blk_cell BK121.out 3).trans rfl, (blk_cell BK121.out 4).trans rfl, (blk_cell BK121.out 5).trans rfl, (blk_cell BK121.out 6).trans rfl, (blk_cell BK121.out 7).trans rfl, (blk_cell BK121.out 8).trans rfl, (blk_cell BK121.out 9).trans rfl, (blk_cell BK121.out 10).trans rfl, (blk_cell BK121.out 11).trans rfl, (blk_cell BK121.out 12).trans rfl, (blk_cell BK121.out 13).trans rfl, (blk_cell BK121.out 14).trans rfl, (blk_cell BK121.out 15).trans rfl, (blk_cell BK121.out 16).trans rfl, (blk_cell BK121.out 17).trans rfl, (blk_cell BK121.out 18).trans rfl, (blk_cell BK121.out 19).trans rfl, (blk_cell BK121.out 20).trans rfl, (blk_cell BK121.out 21).trans rfl, (blk_cell BK121.out 22).trans rfl⟩ (fun hHeld => ?_); refine with_tabW tell_Mark.tab3 tell_Mark.bits3 (fun HT_ HW_ => ?_)
     generalize w103.drew = w105 at BK121 HB hHeld ⊢
     refine pure_ (i := 0) (N := some 15) (v := ?_) (a' := ?_) (bb 12 1) rfl rfl (any_of HT_.out (by kernel_rfl)) (fun _ _ _ h => h) (Or.inl ⟨by rfl, ?_⟩) ?_ ?_
     rotate_left
     ·
      intro w'
      go_simp
      with_reducible rfl
     rotate_left
     ·
      simp only [Act.put, List.setIfInBounds_toArray, List.set_cons_zero, List.set_cons_succ, i64_w, i32_w]
      rfl
     refine pure_ (i := 3) (N := some 18) (v := ?_) (a' := ?_) (bb 12 9) rfl rfl (any_of HT_.out (by kernel_rfl)) (fun _ _ _ h => h) (Or.inl ⟨by rfl, ?_⟩) ?_ ?_
     rotate_left
     ·
      intro w'
      go_simp
      with_reducible rfl
     rotate_left
     ·
      simp only [Act.put, List.setIfInBounds_toArray, List.set_cons_zero, List.set_cons_succ, i64_w, i32_w]
      rfl
     refine pure_ (i := 6) (N := some 21) (v := ?_) (a' := ?_) (bb 12 73) rfl rfl (any_of HT_.out (by kernel_rfl)) (fun _ _ _ h => h) (Or.inl ⟨by rfl, ?_⟩) ?_ ?_
     rotate_left
     ·
      intro w'
      go_simp
      with_reducible rfl
     rotate_left
     ·
      simp only [Act.put, List.setIfInBounds_toArray, List.set_cons_zero, List.set_cons_succ, i64_w, i32_w]
      rfl
     refine take_ (i := 1) (N := some 16) (v := ?_) (a' := ?_) (bb 12 75) rfl rfl (take_ofW HT_.out HW_.out (by kernel_rfl)) (fun _ _ _ h => h) (Or.inl ⟨by rfl, ?_⟩) hHeld ?_ ?_
     rotate_left
     ·
      rintro w' ⟨s0, s1, s2, s3, s4, s5, s6, s7, s8, s9, s10, s11, s12, s13, s14, s15, s16, s17, s18, s19, s20, s21, s22⟩
      go_simp
      with_reducible rfl
     rotate_left
     ·
      simp only [Act.put, List.setIfInBounds_toArray, List.set_cons_zero, List.set_cons_succ, i64_w, i32_w]
      rfl
     refine take_ (i := 4) (N := some 19) (v := ?_) (a' := ?_) (bb 12 91) rfl rfl (take_ofW HT_.out HW_.out (by kernel_rfl)) (fun _ _ _ h => h) (Or.inl ⟨by rfl, ?_⟩) hHeld ?_ ?_
     rotate_left
     ·
      rintro w' ⟨s0, s1, s2, s3, s4, s5, s6, s7, s8, s9, s10, s11, s12, s13, s14, s15, s16, s17, s18, s19, s20, s21, s22⟩
      go_simp
      with_reducible rfl
     rotate_left
     ·
      simp only [Act.put, List.setIfInBounds_toArray, List.set_cons_zero, List.set_cons_succ, i64_w, i32_w]
      rfl
     refine take_ (i := 7) (N := some 22) (v := ?_) (a' := ?_) (bb 12 219) rfl rfl (take_ofW HT_.out HW_.out (by kernel_rfl)) (fun _ _ _ h => h) (Or.inl ⟨by rfl, ?_⟩) hHeld ?_ ?_
     rotate_left
     ·
      rintro w' ⟨s0, s1, s2, s3, s4, s5, s6, s7, s8, s9, s10, s11, s12, s13, s14, s15, s16, s17, s18, s19, s20, s21, s22⟩
      go_simp
      with_reducible rfl
     rotate_left
     ·
      simp only [Act.put, List.setIfInBounds_toArray, List.set_cons_zero, List.set_cons_succ, i64_w, i32_w]
      rfl
     refine one_ (i := 2) (N := some 17) (bb 12 223) rfl rfl (one_of HT_.out (by kernel_rfl)) (by decide) (fun K hK => ?_)
     refine goes_ Tryd.func57 (by kernel_rfl) rfl #[.int .i64 a0_1] (by rfl) rfl rfl (by (try simp only [List.map_toArray, List.map_cons, List.map_nil]); first | done | rfl | (simp only [List.length_drop, List.length_take]; rfl) | (go_simp; done) | (go_simp; omega)) ?_
     with_reducible refine (tell_num.calls a0_1 t128 _ A15.out (ht := (by first | exact HT.out | exact Go.Proofs.YtcebnaknodghcaaDoor.HItoa.Tab.below HT.out (by repeat (first | (with_reducible first | exact HB.out | apply below_alloc | apply pw_below_drewN | apply below_drew1) | exact HB.out))))).mono ?_
     rintro e w106 ⟨rfl, hb⟩
     refine ⟨_, rfl, ?_⟩
     have n0_ := Aside0.mk (blk_below (g := gb121) (o := .cells #[.int .i64 a0_0, .int .i64 a0_1, .int .i64 a0_2, .int .i64 a0_3, .int .u8 a0_4, .int .u8 a0_5, .int .i64 a0_6, .int .u32 a0_7, .int .u16 a0_8, .int .i64 a0_9, .int .i64 a0_10, .int .i64 a0_11, .int .u64 a0_12, .int .u64 a0_13, .slice A0_14 l0_14.length c0_14, .int .u64 a0_15, .int .i64 a0_16, .int .u8 a0_17, .int .i64 a0_18, .slice A0_19 l0_19.length c0_19, .int .i64 a0_20, .int .i64 a0_21, .slice A0_22 l0_22.length c0_22] 35 (0, 0)) (by (with_reducible repeat (first | refine blk_drewN ?_ _ | refine blk_drew ?_ | refine blk_alloc ?_ _)); exact BK121.out) hb)
     have n1_ := Aside0.mk (below_step (by repeat (first | (with_reducible first | exact HB.out | apply below_alloc | apply pw_below_drewN | apply below_drew1 | refine below_set ?_ GE121.out) | exact HB.out)) hb)
     clear BK121
     clear HB
     have BK121 := n0_
     have HB := n1_
     clear n0_ n1_
     (try clear hb)
     (try clear hb2)
     (try clear hk)
     (try clear hi)
     refine hK.out _ _ ⟨(blk_cell BK121.out 0).trans rfl, (blk_cell BK121.out 1).trans rfl, (blk_cell BK121.out 2).trans rfl, (blk_cell BK121.out 3).trans rfl, (blk_cell BK121.out 4).trans rfl, (blk_cell BK121.out 5).trans rfl, (blk_cell BK121.out 6).trans rfl, (blk_cell BK121.out 7).trans rfl, (blk_cell BK121.out 8).trans rfl, (blk_cell BK121.out 9).trans rfl, (blk_cell BK121.out 10).trans rfl, (blk_cell BK121.out 11).trans rfl, (blk_cell BK121.out 12).trans rfl, (blk_cell BK121.out 13).trans rfl, (blk_cell BK121.out 14).trans rfl, (blk_cell BK121.out 15).trans rfl, (blk_cell BK121.out 16).trans rfl, (blk_cell BK121.out 17).trans rfl, (blk_cell BK121.out 18).trans rfl, (blk_cell BK121.out 19).trans rfl, (blk_cell BK121.out 20).trans rfl, (blk_cell BK121.out 21).trans rfl, (blk_cell BK121.out 22).trans rfl⟩ (fun hHeld => ?_)
     clear hK K
     refine norm_ (a' := ?_) ?_ ?_
     rotate_left
     ·
      show Act.put _ (some 17) _ = _
      simp only [Act.put, List.setIfInBounds_toArray, List.set_cons_zero, List.set_cons_succ, i64_w, i32_w]
      rfl
     refine one_ (i := 5) (N := some 20) (bb 12 255) rfl rfl (one_of HT_.out (by kernel_rfl)) (by decide) (fun K hK => ?_)
     refine goes_ Tryd.func57 (by kernel_rfl) rfl #[.int .i64 a0_2] (by rfl) rfl rfl (by (try simp only [List.map_toArray, List.map_cons, List.map_nil]); first | done | rfl | (simp only [List.length_drop, List.length_take]; rfl) | (go_simp; done) | (go_simp; omega)) ?_
     with_reducible refine (tell_num.calls a0_2 t129 _ A16.out (ht := (by first | exact HT.out | exact Go.Proofs.YtcebnaknodghcaaDoor.HItoa.Tab.below HT.out (by repeat (first | (with_reducible first | exact HB.out | apply below_alloc | apply pw_below_drewN | apply below_drew1) | exact HB.out))))).mono ?_
     rintro e w107 ⟨rfl, hb⟩
     refine ⟨_, rfl, ?_⟩
     have n0_ := Aside0.mk (blk_below (g := gb121) (o := .cells #[.int .i64 a0_0, .int .i64 a0_1, .int .i64 a0_2, .int .i64 a0_3, .int .u8 a0_4, .int .u8 a0_5, .int .i64 a0_6, .int .u32 a0_7, .int .u16 a0_8, .int .i64 a0_9, .int .i64 a0_10, .int .i64 a0_11, .int .u64 a0_12, .int .u64 a0_13, .slice A0_14 l0_14.length c0_14, .int .u64 a0_15, .int .i64 a0_16, .int .u8 a0_17, .int .i64 a0_18, .slice A0_19 l0_19.length c0_19, .int .i64 a0_20, .int .i64 a0_21, .slice A0_22 l0_22.length c0_22] 35 (0, 0)) (by (with_reducible repeat (first | refine blk_drewN ?_ _ | refine blk_drew ?_ | refine blk_alloc ?_ _)); exact BK121.out) hb)
     have n1_ := Aside0.mk (below_step (by repeat (first | (with_reducible first | exact HB.out | apply below_alloc | apply pw_below_drewN | apply below_drew1 | refine below_set ?_ GE121.out) | exact HB.out)) hb)
     clear BK121
     clear HB
     have BK121 := n0_
     have HB := n1_
     clear n0_ n1_
     (try clear hb)
     (try clear hb2)
     (try clear hk)
     (try clear hi)
     refine hK.out _ _ ⟨(blk_cell BK121.out 0).trans rfl, (blk_cell BK121.out 1).trans rfl, (blk_cell BK121.out 2).trans rfl, (blk_cell BK121.out 3).trans rfl, (blk_cell BK121.out 4).trans rfl, (blk_cell BK121.out 5).trans rfl, (blk_cell BK121.out 6).trans rfl, (blk_cell BK121.out 7).trans rfl, (blk_cell BK121.out 8).trans rfl, (blk_cell BK121.out 9).trans rfl, (blk_cell BK121.out 10).trans rfl, (blk_cell BK121.out 11).trans rfl, (blk_cell BK121.out 12).trans rfl, (blk_cell BK121.out 13).trans rfl, (blk_cell BK121.out 14).trans rfl, (blk_cell BK121.out 15).trans rfl, (blk_cell BK121.out 16).trans rfl, (blk_cell BK121.out 17).trans rfl, (blk_cell BK121.out 18).trans rfl, (blk_cell BK121.out 19).trans rfl, (blk_cell BK121.out 20).trans rfl, (blk_cell BK121.out 21).trans rfl, (blk_cell BK121.out 22).trans rfl⟩ (fun hHeld => ?_)
     clear hK K
     refine norm_ (a' := ?_) ?_ ?_
     rotate_left
     ·
      show Act.put _ (some 20) _ = _
      simp only [Act.put, List.setIfInBounds_toArray, List.set_cons_zero, List.set_cons_succ, i64_w, i32_w]
      rfl
     refine one_ (i := 8) (N := some 23) (bb 12 511) rfl rfl (one_of HT_.out (by kernel_rfl)) (by decide) (fun K hK => ?_)
     refine goes_ Tryd.func57 (by kernel_rfl) rfl #[.int .i64 a0_3] (by rfl) rfl rfl (by (try simp only [List.map_toArray, List.map_cons, List.map_nil]); first | done | rfl | (simp only [List.length_drop, List.length_take]; rfl) | (go_simp; done) | (go_simp; omega)) ?_
     with_reducible refine (tell_num.calls a0_3 t130 _ A17.out (ht := (by first | exact HT.out | exact Go.Proofs.YtcebnaknodghcaaDoor.HItoa.Tab.below HT.out (by repeat (first | (with_reducible first | exact HB.out | apply below_alloc | apply pw_below_drewN | apply below_drew1) | exact HB.out))))).mono ?_
     rintro e w108 ⟨rfl, hb⟩
     refine ⟨_, rfl, ?_⟩
     have n0_ := Aside0.mk (blk_below (g := gb121) (o := .cells #[.int .i64 a0_0, .int .i64 a0_1, .int .i64 a0_2, .int .i64 a0_3, .int .u8 a0_4, .int .u8 a0_5, .int .i64 a0_6, .int .u32 a0_7, .int .u16 a0_8, .int .i64 a0_9, .int .i64 a0_10, .int .i64 a0_11, .int .u64 a0_12, .int .u64 a0_13, .slice A0_14 l0_14.length c0_14, .int .u64 a0_15, .int .i64 a0_16, .int .u8 a0_17, .int .i64 a0_18, .slice A0_19 l0_19.length c0_19, .int .i64 a0_20, .int .i64 a0_21, .slice A0_22 l0_22.length c0_22] 35 (0, 0)) (by (with_reducible repeat (first | refine blk_drewN ?_ _ | refine blk_drew ?_ | refine blk_alloc ?_ _)); exact BK121.out) hb)
     have n1_ := Aside0.mk (below_step (by repeat (first | (with_reducible first | exact HB.out | apply below_alloc | apply pw_below_drewN | apply below_drew1 | refine below_set ?_ GE121.out) | exact HB.out)) hb)
     clear BK121
     clear HB
     have BK121 := n0_
     have HB := n1_
     clear n0_ n1_
     (try clear hb)
     (try clear hb2)
     (try clear hk)
     (try clear hi)
     refine hK.out _ _ ⟨(blk_cell BK121.out 0).trans rfl, (blk_cell BK121.out 1).trans rfl, (blk_cell BK121.out 2).trans rfl, (blk_cell BK121.out 3).trans rfl, (blk_cell BK121.out 4).trans rfl, (blk_cell BK121.out 5).trans rfl, (blk_cell BK121.out 6).trans rfl, (blk_cell BK121.out 7).trans rfl, (blk_cell BK121.out 8).trans rfl, (blk_cell BK121.out 9).trans rfl, (blk_cell BK121.out 10).trans rfl, (blk_cell BK121.out 11).trans rfl, (blk_cell BK121.out 12).trans rfl, (blk_cell BK121.out 13).trans rfl, (blk_cell BK121.out 14).trans rfl, (blk_cell BK121.out 15).trans rfl, (blk_cell BK121.out 16).trans rfl, (blk_cell BK121.out 17).trans rfl, (blk_cell BK121.out 18).trans rfl, (blk_cell BK121.out 19).trans rfl, (blk_cell BK121.out 20).trans rfl, (blk_cell BK121.out 21).trans rfl, (blk_cell BK121.out 22).trans rfl⟩ (fun hHeld => ?_)
     clear hK K
     refine norm_ (a' := ?_) ?_ ?_
     rotate_left
     ·
      show Act.put _ (some 23) _ = _
      simp only [Act.put, List.setIfInBounds_toArray, List.set_cons_zero, List.set_cons_succ, i64_w, i32_w]
      rfl
     refine one_ (i := 9) (N := some 24) (bb 12 1023) rfl rfl (one_of HT_.out (by kernel_rfl)) (by decide) (fun K hK => ?_)
     refine Kd.R_lit_step Kd.string _ 9 ?hg (N := 24) ?hd (xs := ([(⟨#[104, 111, 115, 116]⟩ : ByteArray), t128, (⟨#[99, 116, 120]⟩ : ByteArray), t129, (⟨#[116, 105, 99, 107, 101, 116]⟩ : ByteArray), t130] : List ByteArray)) (inner := [.string (⟨#[104, 111, 115, 116]⟩ : ByteArray), .string t128, .string (⟨#[99, 116, 120]⟩ : ByteArray), .string t129, .string (⟨#[116, 105, 99, 107, 101, 116]⟩ : ByteArray), .string t130]) (ok := fun _ => True) (okp := fun _ => True) ?hr ?hp (fun _ hk => hk) trivial (Below.refl _ _) (Nat.le_refl _) (by simp) ?_; (case hd => rfl); (case hg => rfl); (case hr => first | (go_simp; done) | (go_simp; rfl)); (case hp => exact (Reps.one (show Kd.M Kd.string _ _ _ (⟨#[104, 111, 115, 116]⟩ : ByteArray) [.string (⟨#[104, 111, 115, 116]⟩ : ByteArray)] from rfl) (Reps.one (show Kd.M Kd.string _ _ _ t128 [.string t128] from rfl) (Reps.one (show Kd.M Kd.string _ _ _ (⟨#[99, 116, 120]⟩ : ByteArray) [.string (⟨#[99, 116, 120]⟩ : ByteArray)] from rfl) (Reps.one (show Kd.M Kd.string _ _ _ t129 [.string t129] from rfl) (Reps.one (show Kd.M Kd.string _ _ _ (⟨#[116, 105, 99, 107, 101, 116]⟩ : ByteArray) [.string (⟨#[116, 105, 99, 107, 101, 116]⟩ : ByteArray)] from rfl) (Reps.one (show Kd.M Kd.string _ _ _ t130 [.string t130] from rfl) (Reps.none _ _))))))))
     intro v132 w109 ho110 hb hg_ hnew_
     clear hg_ hnew_
     (first | rw [← Ny131.out] at ho110 | (simp only [Int.reduceToNat] at ho110; rw [← Ny131.out] at ho110))
     have n0_ := Aside0.mk (Kd.R_lower ho110 (below_size (by repeat (first | (with_reducible first | exact HB.out | apply below_alloc | apply pw_below_drewN | apply below_drew1 | refine below_set ?_ GE121.out) | exact HB.out))))
     have n1_ := Aside0.mk (blk_below (g := gb121) (o := .cells #[.int .i64 a0_0, .int .i64 a0_1, .int .i64 a0_2, .int .i64 a0_3, .int .u8 a0_4, .int .u8 a0_5, .int .i64 a0_6, .int .u32 a0_7, .int .u16 a0_8, .int .i64 a0_9, .int .i64 a0_10, .int .i64 a0_11, .int .u64 a0_12, .int .u64 a0_13, .slice A0_14 l0_14.length c0_14, .int .u64 a0_15, .int .i64 a0_16, .int .u8 a0_17, .int .i64 a0_18, .slice A0_19 l0_19.length c0_19, .int .i64 a0_20, .int .i64 a0_21, .slice A0_22 l0_22.length c0_22] 35 (0, 0)) (by (with_reducible repeat (first | refine blk_drewN ?_ _ | refine blk_drew ?_ | refine blk_alloc ?_ _)); exact BK121.out) hb)
     have n2_ := Aside0.mk (below_step (by repeat (first | (with_reducible first | exact HB.out | apply below_alloc | apply pw_below_drewN | apply below_drew1 | refine below_set ?_ GE121.out) | exact HB.out)) hb)
     clear BK121
     clear HB
     have HO133 := n0_
     have BK121 := n1_
     have HB := n2_
     clear n0_ n1_ n2_
     clear hb ho110
     obtain ⟨Ao111, co111, eo111⟩ := Kd.R_slice HO133.out
     (first | subst eo111 | (injection eo111 with f1_ f2_ f3_; have f4_ := f1_.symm; have f5_ := f3_.symm; clear f1_ f2_ f3_; subst f4_; subst f5_))
     refine hK.out _ _ ⟨(blk_cell BK121.out 0).trans rfl, (blk_cell BK121.out 1).trans rfl, (blk_cell BK121.out 2).trans rfl, (blk_cell BK121.out 3).trans rfl, (blk_cell BK121.out 4).trans rfl, (blk_cell BK121.out 5).trans rfl, (blk_cell BK121.out 6).trans rfl, (blk_cell BK121.out 7).trans rfl, (blk_cell BK121.out 8).trans rfl, (blk_cell BK121.out 9).trans rfl, (blk_cell BK121.out 10).trans rfl, (blk_cell BK121.out 11).trans rfl, (blk_cell BK121.out 12).trans rfl, (blk_cell BK121.out 13).trans rfl, (blk_cell BK121.out 14).trans rfl, (blk_cell BK121.out 15).trans rfl, (blk_cell BK121.out 16).trans rfl, (blk_cell BK121.out 17).trans rfl, (blk_cell BK121.out 18).trans rfl, (blk_cell BK121.out 19).trans rfl, (blk_cell BK121.out 20).trans rfl, (blk_cell BK121.out 21).trans rfl, (blk_cell BK121.out 22).trans rfl⟩ (fun hHeld => ?_)
     clear hK K
     refine norm_ (a' := ?_) ?_ ?_
     rotate_left
     ·
      show Act.put _ (some 24) _ = _
      simp only [Act.put, List.setIfInBounds_toArray, List.set_cons_zero, List.set_cons_succ, i64_w, i32_w]
      rfl
     refine one_ (i := 10) (N := some 25) (bb 12 2047) rfl rfl (one_of HT_.out (by kernel_rfl)) (by decide) (fun K hK => ?_)
     refine goes_ Tryd.func56 (by kernel_rfl) rfl #[.slice Ao111 y131.length co111] (by rfl) rfl rfl (by (try simp only [List.map_toArray, List.map_cons, List.map_nil]); first | done | rfl | (simp only [List.length_drop, List.length_take]; rfl) | (go_simp; done) | (go_simp; omega)) ?_
     with_reducible refine (tell_words.calls _ _ y131 t134 _ ?side1 ?side2 A18.out).mono ?_
     (case side1 => repeat (first | exact (Kd.R_reads' HO133.out).2.2 | (with_reducible refine Kd.C_alloc ?_ _) | (with_reducible refine Kd.C_drewN ?_ _) | (with_reducible refine Kd.C_drew ?_)))
     (case side2 => exact (Kd.R_reads' HO133.out).2.1)
     rintro e w112 ⟨rfl, hb⟩
     refine ⟨_, rfl, ?_⟩
     have n0_ := Aside0.mk (Kd.R_below (by (with_reducible repeat (first | apply Kd.R_alloc | apply Kd.R_drewN | apply Kd.R_drew)); exact HO133.out) hb)
     have n1_ := Aside0.mk (blk_below (g := gb121) (o := .cells #[.int .i64 a0_0, .int .i64 a0_1, .int .i64 a0_2, .int .i64 a0_3, .int .u8 a0_4, .int .u8 a0_5, .int .i64 a0_6, .int .u32 a0_7, .int .u16 a0_8, .int .i64 a0_9, .int .i64 a0_10, .int .i64 a0_11, .int .u64 a0_12, .int .u64 a0_13, .slice A0_14 l0_14.length c0_14, .int .u64 a0_15, .int .i64 a0_16, .int .u8 a0_17, .int .i64 a0_18, .slice A0_19 l0_19.length c0_19, .int .i64 a0_20, .int .i64 a0_21, .slice A0_22 l0_22.length c0_22] 35 (0, 0)) (by (with_reducible repeat (first | refine blk_drewN ?_ _ | refine blk_drew ?_ | refine blk_alloc ?_ _)); exact BK121.out) hb)
     have n2_ := Aside0.mk (below_step (by repeat (first | (with_reducible first | exact HB.out | apply below_alloc | apply pw_below_drewN | apply below_drew1 | refine below_set ?_ GE121.out) | exact HB.out)) hb)
     clear HO133
     clear BK121
     clear HB
     have HO133 := n0_
     have BK121 := n1_
     have HB := n2_
     clear n0_ n1_ n2_
     (try clear hb)
     (try clear hb2)
     (try clear hk)
     (try clear hi)
     refine hK.out _ _ ⟨(blk_cell BK121.out 0).trans rfl, (blk_cell BK121.out 1).trans rfl, (blk_cell BK121.out 2).trans rfl, (blk_cell BK121.out 3).trans rfl, (blk_cell BK121.out 4).trans rfl, (blk_cell BK121.out 5).trans rfl, (blk_cell BK121.out 6).trans rfl, (blk_cell BK121.out 7).trans rfl, (blk_cell BK121.out 8).trans rfl, (blk_cell BK121.out 9).trans rfl, (blk_cell BK121.out 10).trans rfl, (blk_cell BK121.out 11).trans rfl, (blk_cell BK121.out 12).trans rfl, (blk_cell BK121.out 13).trans rfl, (blk_cell BK121.out 14).trans rfl, (blk_cell BK121.out 15).trans rfl, (blk_cell BK121.out 16).trans rfl, (blk_cell BK121.out 17).trans rfl, (blk_cell BK121.out 18).trans rfl, (blk_cell BK121.out 19).trans rfl, (blk_cell BK121.out 20).trans rfl, (blk_cell BK121.out 21).trans rfl, (blk_cell BK121.out 22).trans rfl⟩ (fun hHeld => ?_)
     clear hK K
     refine norm_ (a' := ?_) ?_ ?_
     rotate_left
     ·
      show Act.put _ (some 25) _ = _
      simp only [Act.put, List.setIfInBounds_toArray, List.set_cons_zero, List.set_cons_succ, i64_w, i32_w]
      rfl
     refine pure_ (i := 11) (N := some 3) (v := ?_) (a' := ?_) (bb 12 4095) rfl rfl (any_of HT_.out (by kernel_rfl)) (fun _ _ _ h => h) (Or.inl ⟨by rfl, ?_⟩) ?_ ?_
     rotate_left
     ·
      intro w'
      go_simp
      with_reducible rfl
     rotate_left
     ·
      simp only [Act.put, List.setIfInBounds_toArray, List.set_cons_zero, List.set_cons_succ, i64_w, i32_w]
      rfl
     refine done_ (done_of HT_.out (by kernel_rfl)) ?_
     have hcz113_0 : w112.cell? ⟨gb121, 0, none⟩ = some (.int .i64 a0_0) := (blk_cell BK121.out 0).trans rfl
     have hcz113_1 : w112.cell? ⟨gb121, 1, none⟩ = some (.int .i64 a0_1) := (blk_cell BK121.out 1).trans rfl
     have hcz113_2 : w112.cell? ⟨gb121, 2, none⟩ = some (.int .i64 a0_2) := (blk_cell BK121.out 2).trans rfl
     have hcz113_3 : w112.cell? ⟨gb121, 3, none⟩ = some (.int .i64 a0_3) := (blk_cell BK121.out 3).trans rfl
     have hcz113_4 : w112.cell? ⟨gb121, 4, none⟩ = some (.int .u8 a0_4) := (blk_cell BK121.out 4).trans rfl
     have hcz113_5 : w112.cell? ⟨gb121, 5, none⟩ = some (.int .u8 a0_5) := (blk_cell BK121.out 5).trans rfl
     have hcz113_6 : w112.cell? ⟨gb121, 6, none⟩ = some (.int .i64 a0_6) := (blk_cell BK121.out 6).trans rfl
     have hcz113_7 : w112.cell? ⟨gb121, 7, none⟩ = some (.int .u32 a0_7) := (blk_cell BK121.out 7).trans rfl
     have hcz113_8 : w112.cell? ⟨gb121, 8, none⟩ = some (.int .u16 a0_8) := (blk_cell BK121.out 8).trans rfl
     have hcz113_9 : w112.cell? ⟨gb121, 9, none⟩ = some (.int .i64 a0_9) := (blk_cell BK121.out 9).trans rfl
     have hcz113_10 : w112.cell? ⟨gb121, 10, none⟩ = some (.int .i64 a0_10) := (blk_cell BK121.out 10).trans rfl
     have hcz113_11 : w112.cell? ⟨gb121, 11, none⟩ = some (.int .i64 a0_11) := (blk_cell BK121.out 11).trans rfl
     have hcz113_12 : w112.cell? ⟨gb121, 12, none⟩ = some (.int .u64 a0_12) := (blk_cell BK121.out 12).trans rfl
     have hcz113_13 : w112.cell? ⟨gb121, 13, none⟩ = some (.int .u64 a0_13) := (blk_cell BK121.out 13).trans rfl
     have hcz113_14 : w112.cell? ⟨gb121, 14, none⟩ = some (.slice A0_14 l0_14.length c0_14) := (blk_cell BK121.out 14).trans rfl
     have hcz113_15 : w112.cell? ⟨gb121, 15, none⟩ = some (.int .u64 a0_15) := (blk_cell BK121.out 15).trans rfl
     have hcz113_16 : w112.cell? ⟨gb121, 16, none⟩ = some (.int .i64 a0_16) := (blk_cell BK121.out 16).trans rfl
     have hcz113_17 : w112.cell? ⟨gb121, 17, none⟩ = some (.int .u8 a0_17) := (blk_cell BK121.out 17).trans rfl
     have hcz113_18 : w112.cell? ⟨gb121, 18, none⟩ = some (.int .i64 a0_18) := (blk_cell BK121.out 18).trans rfl
     have hcz113_19 : w112.cell? ⟨gb121, 19, none⟩ = some (.slice A0_19 l0_19.length c0_19) := (blk_cell BK121.out 19).trans rfl
     have hcz113_20 : w112.cell? ⟨gb121, 20, none⟩ = some (.int .i64 a0_20) := (blk_cell BK121.out 20).trans rfl
     have hcz113_21 : w112.cell? ⟨gb121, 21, none⟩ = some (.int .i64 a0_21) := (blk_cell BK121.out 21).trans rfl
     have hcz113_22 : w112.cell? ⟨gb121, 22, none⟩ = some (.slice A0_22 l0_22.length c0_22) := (blk_cell BK121.out 22).trans rfl
     have hfz113_0 := blk_frozen BK121.out 0
     have hfz113_1 := blk_frozen BK121.out 1
     have hfz113_2 := blk_frozen BK121.out 2
     have hfz113_3 := blk_frozen BK121.out 3
     have hfz113_4 := blk_frozen BK121.out 4
     have hfz113_5 := blk_frozen BK121.out 5
     have hfz113_6 := blk_frozen BK121.out 6
     have hfz113_7 := blk_frozen BK121.out 7
     have hfz113_8 := blk_frozen BK121.out 8
     have hfz113_9 := blk_frozen BK121.out 9
     have hfz113_10 := blk_frozen BK121.out 10
     have hfz113_11 := blk_frozen BK121.out 11
     have hfz113_12 := blk_frozen BK121.out 12
     have hfz113_13 := blk_frozen BK121.out 13
     have hfz113_14 := blk_frozen BK121.out 14
     have hfz113_15 := blk_frozen BK121.out 15
     have hfz113_16 := blk_frozen BK121.out 16
     have hfz113_17 := blk_frozen BK121.out 17
     have hfz113_18 := blk_frozen BK121.out 18
     have hfz113_19 := blk_frozen BK121.out 19
     have hfz113_20 := blk_frozen BK121.out 20
     have hfz113_21 := blk_frozen BK121.out 21
     have hfz113_22 := blk_frozen BK121.out 22
     try go_wp2
     go_ret
     exact ⟨by first | rfl | (simp [errW_none, errW_some] <;> rfl) | (simp [*, errW_none, errW_some] <;> rfl), by repeat (first | (with_reducible first | exact HB.out | apply below_alloc | apply pw_below_drewN | apply below_drew1 | refine below_set ?_ GE121.out) | exact HB.out)⟩

end Go.Proofs.YtcebnaknodghcaaDoor.PTel
