-- Laid by a program of this session (wip/tools/mk.py) over the kit's print: functions, contracts, walks; not written by hand, not trusted: Lean checks it.
import Derived.Test.YtcebnaknodghcaaDoorPTelx0
import Derived.Test.YtcebnaknodghcaaDoorPTelx2
namespace Go.Proofs.YtcebnaknodghcaaDoor.PTel
open Go.RowKit Go.Proofs.YtcebnaknodghcaaDoorW.PrintWords Go.Proofs.YtcebnaknodghcaaDoorW.PrintLast Go.Proofs.YtcebnaknodghcaaDoorW.PrintMore
attribute [local go_sem] max2_int min2_int max_two min_two max_three min_three max_four min_four   -- for this text's walks alone
set_option linter.unusedVariables false
set_option linter.unusedSimpArgs false

/-! ### towropelaw34_live: function 13 -/
def towropelaw34_live.f (k : Nat)  : Option (Bool) := (tell_Mark.f k 1 1 0 5 0 0 0 0 0 0 0 0 0 0 ([] : List Int) 0 0 0 0 ([] : List Int) 0 3 (([1, 2, 3] : List Int))).bind fun t165 => (some (t165.toList == ([104, 111, 115, 116, 32, 49, 32, 99, 116, 120, 32, 48, 32, 116, 105, 99, 107, 101, 116, 32, 53, 32, 100, 105, 100, 32, 51, 32, 98, 121, 116, 101, 115, 32, 51] : List UInt8)))
theorem towropelaw34_live.mono : ∀ k, LeO (towropelaw34_live.f k ) (towropelaw34_live.f (k + 1) ) := by
  intro  k
  unfold towropelaw34_live.f
  repeat' first
      | (with_reducible exact tell_Mark.mono _ _ _ _ _ _ _ _ _ _ _ _ _ _ _ _ _ _ _ _ _ _ _ _)
      | (with_reducible exact LeO.refl _)
      | (with_reducible exact LeO.none _)
      | (with_reducible refine LeO.ite ?_ ?_)
      | (with_reducible refine LeO.bind ?_ (fun _ => ?_))
      | exact tell_Mark.mono _ _ _ _ _ _ _ _ _ _ _ _ _ _ _ _ _ _ _ _ _ _ _ _
      | exact LeO.none _
      | refine LeO.ite ?_ ?_
      | refine LeO.bind ?_ (fun _ => ?_)
set_option maxHeartbeats 8000000 in
set_option maxRecDepth 100000 in
theorem towropelaw34_live.calls (k : Nat)  (r : Bool) (w : World) (ht : Go.Proofs.YtcebnaknodghcaaDoor.HItoa.Tab w) (h : towropelaw34_live.f k  = some r) :
    Calls Tryd.prog 13 #[] w fun e w' => e = .returned (.bool r) ∧ Below w.heap.size w w' := by
  have HT := Aside0.mk ht
  clear ht
  have hu35 := Tryd.underlying35
  have HB := Aside0.mk (Below.refl w.heap.size w)
  have H : ((tell_Mark.f k 1 1 0 5 0 0 0 0 0 0 0 0 0 0 ([] : List Int) 0 0 0 0 ([] : List Int) 0 3 (([1, 2, 3] : List Int))).bind fun t165 => (some (t165.toList == ([104, 111, 115, 116, 32, 49, 32, 99, 116, 120, 32, 48, 32, 116, 105, 99, 107, 101, 116, 32, 53, 32, 100, 105, 100, 32, 51, 32, 98, 121, 116, 101, 115, 32, 51] : List UInt8)))) = some r := h
  clear h
  obtain ⟨y162, hy162⟩ : ∃ y_ : List Int, y_ = (([1, 2, 3] : List Int)) := ⟨_, rfl⟩
  replace H : ((tell_Mark.f k 1 1 0 5 0 0 0 0 0 0 0 0 0 0 ([] : List Int) 0 0 0 0 ([] : List Int) 0 3 y162).bind fun t165 => (some (t165.toList == ([104, 111, 115, 116, 32, 49, 32, 99, 116, 120, 32, 48, 32, 116, 105, 99, 107, 101, 116, 32, 53, 32, 100, 105, 100, 32, 51, 32, 98, 121, 116, 101, 115, 32, 51] : List UInt8)))) = some r := by first | (rw [hy162]; with_reducible exact H) | (have H2_ := (Option.bind_some _ _).symm.trans H; rw [hy162]; with_reducible exact H2_) | (have H2_ := (Option.bind_some _ _).symm.trans H; with_reducible exact H2_) | with_reducible exact H | (rw [hy162]; exact H) | exact H
  have Ny162 := Aside0.mk hy162
  clear hy162
  replace H := Option.bind_eq_some_iff.mp H
  obtain ⟨t165, A10, H⟩ := H
  replace H : (some (t165.toList == ([104, 111, 115, 116, 32, 49, 32, 99, 116, 120, 32, 48, 32, 116, 105, 99, 107, 101, 116, 32, 53, 32, 100, 105, 100, 32, 51, 32, 98, 121, 116, 101, 115, 32, 51] : List UInt8))) = some r := H
  have A1 := Aside0.mk A10
  clear A10
  obtain rfl := Option.some.inj H
  go_enter Tryd.func13, Tryd.ntmps13
  go_wp2_with (first | ((with_reducible refine gate_dst (N := 1) rfl ?_); refine Kd.R_lit (Kd.int .u8) _ 5 ?hg (N := 1) ?hd (xs := ([1, 2, 3] : List Int)) (inner := [.int .u8 1, .int .u8 2, .int .u8 3]) (ok := fun _ => True) (okp := fun _ => True) ?hr ?hp (fun _ hk => hk) trivial (Below.refl _ _) (Nat.le_refl _) (by simp) ?_; (case hd => rfl); (case hg => rfl); (case hr => first | (go_simp; done) | (go_simp; rfl)); (case hp => exact (Reps.one (show Kd.M (Kd.int .u8) _ _ _ 1 [.int .u8 1] from rfl) (Reps.one (show Kd.M (Kd.int .u8) _ _ _ 2 [.int .u8 2] from rfl) (Reps.one (show Kd.M (Kd.int .u8) _ _ _ 3 [.int .u8 3] from rfl) (Reps.none _ _))))); intro v163 w2 ho3 hb hg_ hnew_; clear hg_ hnew_; (first | rw [← Ny162.out] at ho3 | (simp only [Int.reduceToNat] at ho3; rw [← Ny162.out] at ho3)); have n0_ := Aside0.mk (Kd.R_lower ho3 (below_size (by repeat (first | (with_reducible first | exact HB.out | apply below_alloc | apply pw_below_drewN | apply below_drew1) | exact HB.out)))); have n1_ := Aside0.mk (below_step (by repeat (first | (with_reducible first | exact HB.out | apply below_alloc | apply pw_below_drewN | apply below_drew1) | exact HB.out)) hb); clear HB; have HO164 := n0_; have HB := n1_; clear n0_ n1_; clear hb ho3; (try (obtain ⟨Ao4, co4, eo4⟩ := Kd.R_slice HO164.out; subst eo4))) | ((with_reducible refine gate_callee (f := 15) rfl ?_); refine goesL_ (some 3) rfl rfl Tryd.func15 (by kernel_rfl) rfl #[.agg #[.int .i64 1, .int .i64 1, .int .i64 0, .int .i64 5, .int .u8 0, .int .u8 0, .int .i64 0, .int .u32 0, .int .u16 0, .int .i64 0, .int .i64 0, .int .i64 0, .int .u64 0, .int .u64 0, .slice none 0 0, .int .u64 0, .int .i64 0, .int .u8 0, .int .i64 0, .slice none 0 0, .int .i64 0, .int .i64 3, .slice Ao4 y162.length co4]] rfl (by (try simp only [List.map_toArray, List.map_cons, List.map_nil]); first | done | rfl | (simp only [List.length_drop, List.length_take]; rfl) | (go_simp; done) | (go_simp; omega)) ?_; (refine (tell_Mark.calls k 1 1 0 5 0 0 0 0 0 0 0 0 0 0 _ _ ([] : List Int) 0 0 0 0 _ _ ([] : List Int) 0 3 _ _ y162 t165 _ ?side1 ?side2 ?side3 ?side4 ?side5 ?side6 A1.out (ht := (by first | exact HT.out | exact Go.Proofs.YtcebnaknodghcaaDoor.HItoa.Tab.below HT.out (by repeat (first | (with_reducible first | exact HB.out | apply below_alloc | apply pw_below_drewN | apply below_drew1) | exact HB.out))))).mono ?_); (case side1 => exact Kd.C_nil _ _); (case side2 => exact Nat.le_refl _); (case side3 => exact Kd.C_nil _ _); (case side4 => exact Nat.le_refl _); (case side5 => repeat (first | exact (Kd.R_reads' HO164.out).2.2 | (with_reducible refine Kd.C_alloc ?_ _) | (with_reducible refine Kd.C_drewN ?_ _) | (with_reducible refine Kd.C_drew ?_))); (case side6 => exact (Kd.R_reads' HO164.out).2.1); rintro e w5 ⟨rfl, hb⟩; refine ⟨_, rfl, ?_⟩; have n0_ := Aside0.mk (Kd.R_below (by (with_reducible repeat (first | apply Kd.R_alloc | apply Kd.R_drewN | apply Kd.R_drew)); exact HO164.out) hb); have n1_ := Aside0.mk (below_step (by repeat (first | (with_reducible first | exact HB.out | apply below_alloc | apply pw_below_drewN | apply below_drew1) | exact HB.out)) hb); clear HO164; clear HB; have HO164 := n0_; have HB := n1_; clear n0_ n1_; (try clear hb); (try clear hb2); (try clear hk); (try clear hi)))
  go_ret
  exact ⟨by first | rfl | (simp [errW_none, errW_some] <;> rfl) | (simp [*, errW_none, errW_some] <;> rfl), by repeat (first | (with_reducible first | exact HB.out | apply below_alloc | apply pw_below_drewN | apply below_drew1) | exact HB.out)⟩

/-! ### tell_State: function 27 -/
def tell_State.f (a0 : Int) : Option (ByteArray) := (some (([(⟨#[99, 108, 111, 115, 101, 100]⟩ : ByteArray), (⟨#[115, 121, 110, 115, 101, 110, 116]⟩ : ByteArray), (⟨#[115, 121, 110, 114, 99, 118, 100]⟩ : ByteArray), (⟨#[101, 115, 116, 97, 98]⟩ : ByteArray), (⟨#[102, 105, 110, 119, 97, 105, 116, 49]⟩ : ByteArray), (⟨#[102, 105, 110, 119, 97, 105, 116, 50]⟩ : ByteArray), (⟨#[99, 108, 111, 115, 101, 119, 97, 105, 116]⟩ : ByteArray), (⟨#[99, 108, 111, 115, 105, 110, 103]⟩ : ByteArray), (⟨#[108, 97, 115, 116, 97, 99, 107]⟩ : ByteArray), (⟨#[116, 105, 109, 101, 119, 97, 105, 116]⟩ : ByteArray)] : List ByteArray) : List ByteArray)).bind fun y166 => (if a0 < 0 then (some (⟨#[63]⟩ : ByteArray)) else (if a0 ≥ (y166.length : Int) then (some (⟨#[63]⟩ : ByteArray)) else (if 0 ≤ a0 then (if a0 < (y166.length : Int) then (some (rdOf ByteArray.empty y166 a0)) else (none)) else (none))))
set_option maxHeartbeats 8000000 in
set_option maxRecDepth 100000 in
theorem tell_State.calls (a0 : Int) (r : ByteArray) (w : World) (h : tell_State.f a0 = some r) :
    Calls Tryd.prog 27 #[.int .i64 a0] w fun e w' => e = .returned (.string r) ∧ Below w.heap.size w w' := by
  have HB := Aside0.mk (Below.refl w.heap.size w)
  have H : ((some (([(⟨#[99, 108, 111, 115, 101, 100]⟩ : ByteArray), (⟨#[115, 121, 110, 115, 101, 110, 116]⟩ : ByteArray), (⟨#[115, 121, 110, 114, 99, 118, 100]⟩ : ByteArray), (⟨#[101, 115, 116, 97, 98]⟩ : ByteArray), (⟨#[102, 105, 110, 119, 97, 105, 116, 49]⟩ : ByteArray), (⟨#[102, 105, 110, 119, 97, 105, 116, 50]⟩ : ByteArray), (⟨#[99, 108, 111, 115, 101, 119, 97, 105, 116]⟩ : ByteArray), (⟨#[99, 108, 111, 115, 105, 110, 103]⟩ : ByteArray), (⟨#[108, 97, 115, 116, 97, 99, 107]⟩ : ByteArray), (⟨#[116, 105, 109, 101, 119, 97, 105, 116]⟩ : ByteArray)] : List ByteArray) : List ByteArray)).bind fun y166 => (if a0 < 0 then (some (⟨#[63]⟩ : ByteArray)) else (if a0 ≥ (y166.length : Int) then (some (⟨#[63]⟩ : ByteArray)) else (if 0 ≤ a0 then (if a0 < (y166.length : Int) then (some (rdOf ByteArray.empty y166 a0)) else (none)) else (none))))) = some r := h
  clear h
  obtain ⟨y166, hy166⟩ : ∃ y_ : List ByteArray, y_ = (([(⟨#[99, 108, 111, 115, 101, 100]⟩ : ByteArray), (⟨#[115, 121, 110, 115, 101, 110, 116]⟩ : ByteArray), (⟨#[115, 121, 110, 114, 99, 118, 100]⟩ : ByteArray), (⟨#[101, 115, 116, 97, 98]⟩ : ByteArray), (⟨#[102, 105, 110, 119, 97, 105, 116, 49]⟩ : ByteArray), (⟨#[102, 105, 110, 119, 97, 105, 116, 50]⟩ : ByteArray), (⟨#[99, 108, 111, 115, 101, 119, 97, 105, 116]⟩ : ByteArray), (⟨#[99, 108, 111, 115, 105, 110, 103]⟩ : ByteArray), (⟨#[108, 97, 115, 116, 97, 99, 107]⟩ : ByteArray), (⟨#[116, 105, 109, 101, 119, 97, 105, 116]⟩ : ByteArray)] : List ByteArray)) := ⟨_, rfl⟩
  replace H : (if a0 < 0 then (some (⟨#[63]⟩ : ByteArray)) else (if a0 ≥ (y166.length : Int) then (some (⟨#[63]⟩ : ByteArray)) else (if 0 ≤ a0 then (if a0 < (y166.length : Int) then (some (rdOf ByteArray.empty y166 a0)) else (none)) else (none)))) = some r := by first | (rw [hy166]; with_reducible exact H) | (have H2_ := (Option.bind_some _ _).symm.trans H; rw [hy166]; with_reducible exact H2_) | (have H2_ := (Option.bind_some _ _).symm.trans H; with_reducible exact H2_) | with_reducible exact H | (rw [hy166]; exact H) | exact H
  have Ny166 := Aside0.mk hy166
  clear hy166
  by_cases c2 : a0 < 0
  · rw [if_pos c2] at H
    have c2b0 : decide (a0 < 0) = true := decide_eq_true c2
    clear c2
    obtain rfl := Option.some.inj H
    go_enter Tryd.func27, Tryd.ntmps27
    go_wp2_with (first | ((with_reducible refine gate_dst (N := 4) rfl ?_); (try (refine gate_guard (by rfl) ?_; dsimp only)); refine Kd.R_lit Kd.string _ 9 ?hg (N := 4) ?hd (xs := ([(⟨#[99, 108, 111, 115, 101, 100]⟩ : ByteArray), (⟨#[115, 121, 110, 115, 101, 110, 116]⟩ : ByteArray), (⟨#[115, 121, 110, 114, 99, 118, 100]⟩ : ByteArray), (⟨#[101, 115, 116, 97, 98]⟩ : ByteArray), (⟨#[102, 105, 110, 119, 97, 105, 116, 49]⟩ : ByteArray), (⟨#[102, 105, 110, 119, 97, 105, 116, 50]⟩ : ByteArray), (⟨#[99, 108, 111, 115, 101, 119, 97, 105, 116]⟩ : ByteArray), (⟨#[99, 108, 111, 115, 105, 110, 103]⟩ : ByteArray), (⟨#[108, 97, 115, 116, 97, 99, 107]⟩ : ByteArray), (⟨#[116, 105, 109, 101, 119, 97, 105, 116]⟩ : ByteArray)] : List ByteArray)) (inner := [.string (⟨#[99, 108, 111, 115, 101, 100]⟩ : ByteArray), .string (⟨#[115, 121, 110, 115, 101, 110, 116]⟩ : ByteArray), .string (⟨#[115, 121, 110, 114, 99, 118, 100]⟩ : ByteArray), .string (⟨#[101, 115, 116, 97, 98]⟩ : ByteArray), .string (⟨#[102, 105, 110, 119, 97, 105, 116, 49]⟩ : ByteArray), .string (⟨#[102, 105, 110, 119, 97, 105, 116, 50]⟩ : ByteArray), .string (⟨#[99, 108, 111, 115, 101, 119, 97, 105, 116]⟩ : ByteArray), .string (⟨#[99, 108, 111, 115, 105, 110, 103]⟩ : ByteArray), .string (⟨#[108, 97, 115, 116, 97, 99, 107]⟩ : ByteArray), .string (⟨#[116, 105, 109, 101, 119, 97, 105, 116]⟩ : ByteArray)]) (ok := fun _ => True) (okp := fun _ => True) ?hr ?hp (fun _ hk => hk) trivial (Below.refl _ _) (Nat.le_refl _) (by simp) ?_; (case hd => rfl); (case hg => rfl); (case hr => first | (go_simp; done) | (go_simp; rfl)); (case hp => exact (Reps.one (show Kd.M Kd.string _ _ _ (⟨#[99, 108, 111, 115, 101, 100]⟩ : ByteArray) [.string (⟨#[99, 108, 111, 115, 101, 100]⟩ : ByteArray)] from rfl) (Reps.one (show Kd.M Kd.string _ _ _ (⟨#[115, 121, 110, 115, 101, 110, 116]⟩ : ByteArray) [.string (⟨#[115, 121, 110, 115, 101, 110, 116]⟩ : ByteArray)] from rfl) (Reps.one (show Kd.M Kd.string _ _ _ (⟨#[115, 121, 110, 114, 99, 118, 100]⟩ : ByteArray) [.string (⟨#[115, 121, 110, 114, 99, 118, 100]⟩ : ByteArray)] from rfl) (Reps.one (show Kd.M Kd.string _ _ _ (⟨#[101, 115, 116, 97, 98]⟩ : ByteArray) [.string (⟨#[101, 115, 116, 97, 98]⟩ : ByteArray)] from rfl) (Reps.one (show Kd.M Kd.string _ _ _ (⟨#[102, 105, 110, 119, 97, 105, 116, 49]⟩ : ByteArray) [.string (⟨#[102, 105, 110, 119, 97, 105, 116, 49]⟩ : ByteArray)] from rfl) (Reps.one (show Kd.M Kd.string _ _ _ (⟨#[102, 105, 110, 119, 97, 105, 116, 50]⟩ : ByteArray) [.string (⟨#[102, 105, 110, 119, 97, 105, 116, 50]⟩ : ByteArray)] from rfl) (Reps.one (show Kd.M Kd.string _ _ _ (⟨#[99, 108, 111, 115, 101, 119, 97, 105, 116]⟩ : ByteArray) [.string (⟨#[99, 108, 111, 115, 101, 119, 97, 105, 116]⟩ : ByteArray)] from rfl) (Reps.one (show Kd.M Kd.string _ _ _ (⟨#[99, 108, 111, 115, 105, 110, 103]⟩ : ByteArray) [.string (⟨#[99, 108, 111, 115, 105, 110, 103]⟩ : ByteArray)] from rfl) (Reps.one (show Kd.M Kd.string _ _ _ (⟨#[108, 97, 115, 116, 97, 99, 107]⟩ : ByteArray) [.string (⟨#[108, 97, 115, 116, 97, 99, 107]⟩ : ByteArray)] from rfl) (Reps.one (show Kd.M Kd.string _ _ _ (⟨#[116, 105, 109, 101, 119, 97, 105, 116]⟩ : ByteArray) [.string (⟨#[116, 105, 109, 101, 119, 97, 105, 116]⟩ : ByteArray)] from rfl) (Reps.none _ _)))))))))))); intro v167 w3 ho4 hb hg_ hnew_; clear hg_ hnew_; (first | rw [← Ny166.out] at ho4 | (simp only [Int.reduceToNat] at ho4; rw [← Ny166.out] at ho4)); have n0_ := Aside0.mk (Kd.R_lower ho4 (below_size (by repeat (first | (with_reducible first | exact HB.out | apply below_alloc | apply pw_below_drewN | apply below_drew1) | exact HB.out)))); have n1_ := Aside0.mk (below_step (by repeat (first | (with_reducible first | exact HB.out | apply below_alloc | apply pw_below_drewN | apply below_drew1) | exact HB.out)) hb); clear HB; have HO168 := n0_; have HB := n1_; clear n0_ n1_; clear hb ho4))
    go_ret
    exact ⟨by first | rfl | (simp [errW_none, errW_some] <;> rfl) | (simp [*, errW_none, errW_some] <;> rfl), by repeat (first | (with_reducible first | exact HB.out | apply below_alloc | apply pw_below_drewN | apply below_drew1) | exact HB.out)⟩
  · rw [if_neg c2] at H
    have c2b0 : decide (a0 < 0) = false := decide_eq_false c2
    clear c2
    by_cases c5 : a0 ≥ (y166.length : Int)
    · rw [if_pos c5] at H
      have c5b0 : decide ((y166.length : Int) ≤ a0) = true := decide_eq_true c5
      clear c5
      obtain rfl := Option.some.inj H
      go_enter Tryd.func27, Tryd.ntmps27
      go_wp2_with (first | ((with_reducible refine gate_dst (N := 4) rfl ?_); (try (refine gate_guard (by rfl) ?_; dsimp only)); refine Kd.R_lit Kd.string _ 9 ?hg (N := 4) ?hd (xs := ([(⟨#[99, 108, 111, 115, 101, 100]⟩ : ByteArray), (⟨#[115, 121, 110, 115, 101, 110, 116]⟩ : ByteArray), (⟨#[115, 121, 110, 114, 99, 118, 100]⟩ : ByteArray), (⟨#[101, 115, 116, 97, 98]⟩ : ByteArray), (⟨#[102, 105, 110, 119, 97, 105, 116, 49]⟩ : ByteArray), (⟨#[102, 105, 110, 119, 97, 105, 116, 50]⟩ : ByteArray), (⟨#[99, 108, 111, 115, 101, 119, 97, 105, 116]⟩ : ByteArray), (⟨#[99, 108, 111, 115, 105, 110, 103]⟩ : ByteArray), (⟨#[108, 97, 115, 116, 97, 99, 107]⟩ : ByteArray), (⟨#[116, 105, 109, 101, 119, 97, 105, 116]⟩ : ByteArray)] : List ByteArray)) (inner := [.string (⟨#[99, 108, 111, 115, 101, 100]⟩ : ByteArray), .string (⟨#[115, 121, 110, 115, 101, 110, 116]⟩ : ByteArray), .string (⟨#[115, 121, 110, 114, 99, 118, 100]⟩ : ByteArray), .string (⟨#[101, 115, 116, 97, 98]⟩ : ByteArray), .string (⟨#[102, 105, 110, 119, 97, 105, 116, 49]⟩ : ByteArray), .string (⟨#[102, 105, 110, 119, 97, 105, 116, 50]⟩ : ByteArray), .string (⟨#[99, 108, 111, 115, 101, 119, 97, 105, 116]⟩ : ByteArray), .string (⟨#[99, 108, 111, 115, 105, 110, 103]⟩ : ByteArray), .string (⟨#[108, 97, 115, 116, 97, 99, 107]⟩ : ByteArray), .string (⟨#[116, 105, 109, 101, 119, 97, 105, 116]⟩ : ByteArray)]) (ok := fun _ => True) (okp := fun _ => True) ?hr ?hp (fun _ hk => hk) trivial (Below.refl _ _) (Nat.le_refl _) (by simp) ?_; (case hd => rfl); (case hg => rfl); (case hr => first | (go_simp; done) | (go_simp; rfl)); (case hp => exact (Reps.one (show Kd.M Kd.string _ _ _ (⟨#[99, 108, 111, 115, 101, 100]⟩ : ByteArray) [.string (⟨#[99, 108, 111, 115, 101, 100]⟩ : ByteArray)] from rfl) (Reps.one (show Kd.M Kd.string _ _ _ (⟨#[115, 121, 110, 115, 101, 110, 116]⟩ : ByteArray) [.string (⟨#[115, 121, 110, 115, 101, 110, 116]⟩ : ByteArray)] from rfl) (Reps.one (show Kd.M Kd.string _ _ _ (⟨#[115, 121, 110, 114, 99, 118, 100]⟩ : ByteArray) [.string (⟨#[115, 121, 110, 114, 99, 118, 100]⟩ : ByteArray)] from rfl) (Reps.one (show Kd.M Kd.string _ _ _ (⟨#[101, 115, 116, 97, 98]⟩ : ByteArray) [.string (⟨#[101, 115, 116, 97, 98]⟩ : ByteArray)] from rfl) (Reps.one (show Kd.M Kd.string _ _ _ (⟨#[102, 105, 110, 119, 97, 105, 116, 49]⟩ : ByteArray) [.string (⟨#[102, 105, 110, 119, 97, 105, 116, 49]⟩ : ByteArray)] from rfl) (Reps.one (show Kd.M Kd.string _ _ _ (⟨#[102, 105, 110, 119, 97, 105, 116, 50]⟩ : ByteArray) [.string (⟨#[102, 105, 110, 119, 97, 105, 116, 50]⟩ : ByteArray)] from rfl) (Reps.one (show Kd.M Kd.string _ _ _ (⟨#[99, 108, 111, 115, 101, 119, 97, 105, 116]⟩ : ByteArray) [.string (⟨#[99, 108, 111, 115, 101, 119, 97, 105, 116]⟩ : ByteArray)] from rfl) (Reps.one (show Kd.M Kd.string _ _ _ (⟨#[99, 108, 111, 115, 105, 110, 103]⟩ : ByteArray) [.string (⟨#[99, 108, 111, 115, 105, 110, 103]⟩ : ByteArray)] from rfl) (Reps.one (show Kd.M Kd.string _ _ _ (⟨#[108, 97, 115, 116, 97, 99, 107]⟩ : ByteArray) [.string (⟨#[108, 97, 115, 116, 97, 99, 107]⟩ : ByteArray)] from rfl) (Reps.one (show Kd.M Kd.string _ _ _ (⟨#[116, 105, 109, 101, 119, 97, 105, 116]⟩ : ByteArray) [.string (⟨#[116, 105, 109, 101, 119, 97, 105, 116]⟩ : ByteArray)] from rfl) (Reps.none _ _)))))))))))); intro v167 w6 ho7 hb hg_ hnew_; clear hg_ hnew_; (first | rw [← Ny166.out] at ho7 | (simp only [Int.reduceToNat] at ho7; rw [← Ny166.out] at ho7)); have n0_ := Aside0.mk (Kd.R_lower ho7 (below_size (by repeat (first | (with_reducible first | exact HB.out | apply below_alloc | apply pw_below_drewN | apply below_drew1) | exact HB.out)))); have n1_ := Aside0.mk (below_step (by repeat (first | (with_reducible first | exact HB.out | apply below_alloc | apply pw_below_drewN | apply below_drew1) | exact HB.out)) hb); clear HB; have HO168 := n0_; have HB := n1_; clear n0_ n1_; clear hb ho7; (try (obtain ⟨Ao8, co8, eo8⟩ := Kd.R_slice HO168.out; subst eo8))))
      go_ret
      exact ⟨by first | rfl | (simp [errW_none, errW_some] <;> rfl) | (simp [*, errW_none, errW_some] <;> rfl), by repeat (first | (with_reducible first | exact HB.out | apply below_alloc | apply pw_below_drewN | apply below_drew1) | exact HB.out)⟩
    · rw [if_neg c5] at H
      have c5b0 : decide ((y166.length : Int) ≤ a0) = false := decide_eq_false c5
      clear c5
      by_cases c9 : 0 ≤ a0
      · rw [if_pos c9] at H
        have c9b0 : decide (0 ≤ a0) = true := decide_eq_true c9
        clear c9
        by_cases c10 : a0 < (y166.length : Int)
        · rw [if_pos c10] at H
          have c10b0 : decide (a0 < (y166.length : Int)) = true := decide_eq_true c10
          clear c10
          obtain rfl := Option.some.inj H
          go_enter Tryd.func27, Tryd.ntmps27
          go_wp2_with (first | ((with_reducible refine gate_dst (N := 4) rfl ?_); (try (refine gate_guard (by rfl) ?_; dsimp only)); refine Kd.R_lit Kd.string _ 9 ?hg (N := 4) ?hd (xs := ([(⟨#[99, 108, 111, 115, 101, 100]⟩ : ByteArray), (⟨#[115, 121, 110, 115, 101, 110, 116]⟩ : ByteArray), (⟨#[115, 121, 110, 114, 99, 118, 100]⟩ : ByteArray), (⟨#[101, 115, 116, 97, 98]⟩ : ByteArray), (⟨#[102, 105, 110, 119, 97, 105, 116, 49]⟩ : ByteArray), (⟨#[102, 105, 110, 119, 97, 105, 116, 50]⟩ : ByteArray), (⟨#[99, 108, 111, 115, 101, 119, 97, 105, 116]⟩ : ByteArray), (⟨#[99, 108, 111, 115, 105, 110, 103]⟩ : ByteArray), (⟨#[108, 97, 115, 116, 97, 99, 107]⟩ : ByteArray), (⟨#[116, 105, 109, 101, 119, 97, 105, 116]⟩ : ByteArray)] : List ByteArray)) (inner := [.string (⟨#[99, 108, 111, 115, 101, 100]⟩ : ByteArray), .string (⟨#[115, 121, 110, 115, 101, 110, 116]⟩ : ByteArray), .string (⟨#[115, 121, 110, 114, 99, 118, 100]⟩ : ByteArray), .string (⟨#[101, 115, 116, 97, 98]⟩ : ByteArray), .string (⟨#[102, 105, 110, 119, 97, 105, 116, 49]⟩ : ByteArray), .string (⟨#[102, 105, 110, 119, 97, 105, 116, 50]⟩ : ByteArray), .string (⟨#[99, 108, 111, 115, 101, 119, 97, 105, 116]⟩ : ByteArray), .string (⟨#[99, 108, 111, 115, 105, 110, 103]⟩ : ByteArray), .string (⟨#[108, 97, 115, 116, 97, 99, 107]⟩ : ByteArray), .string (⟨#[116, 105, 109, 101, 119, 97, 105, 116]⟩ : ByteArray)]) (ok := fun _ => True) (okp := fun _ => True) ?hr ?hp (fun _ hk => hk) trivial (Below.refl _ _) (Nat.le_refl _) (by simp) ?_; (case hd => rfl); (case hg => rfl); (case hr => first | (go_simp; done) | (go_simp; rfl)); (case hp => exact (Reps.one (show Kd.M Kd.string _ _ _ (⟨#[99, 108, 111, 115, 101, 100]⟩ : ByteArray) [.string (⟨#[99, 108, 111, 115, 101, 100]⟩ : ByteArray)] from rfl) (Reps.one (show Kd.M Kd.string _ _ _ (⟨#[115, 121, 110, 115, 101, 110, 116]⟩ : ByteArray) [.string (⟨#[115, 121, 110, 115, 101, 110, 116]⟩ : ByteArray)] from rfl) (Reps.one (show Kd.M Kd.string _ _ _ (⟨#[115, 121, 110, 114, 99, 118, 100]⟩ : ByteArray) [.string (⟨#[115, 121, 110, 114, 99, 118, 100]⟩ : ByteArray)] from rfl) (Reps.one (show Kd.M Kd.string _ _ _ (⟨#[101, 115, 116, 97, 98]⟩ : ByteArray) [.string (⟨#[101, 115, 116, 97, 98]⟩ : ByteArray)] from rfl) (Reps.one (show Kd.M Kd.string _ _ _ (⟨#[102, 105, 110, 119, 97, 105, 116, 49]⟩ : ByteArray) [.string (⟨#[102, 105, 110, 119, 97, 105, 116, 49]⟩ : ByteArray)] from rfl) (Reps.one (show Kd.M Kd.string _ _ _ (⟨#[102, 105, 110, 119, 97, 105, 116, 50]⟩ : ByteArray) [.string (⟨#[102, 105, 110, 119, 97, 105, 116, 50]⟩ : ByteArray)] from rfl) (Reps.one (show Kd.M Kd.string _ _ _ (⟨#[99, 108, 111, 115, 101, 119, 97, 105, 116]⟩ : ByteArray) [.string (⟨#[99, 108, 111, 115, 101, 119, 97, 105, 116]⟩ : ByteArray)] from rfl) (Reps.one (show Kd.M Kd.string _ _ _ (⟨#[99, 108, 111, 115, 105, 110, 103]⟩ : ByteArray) [.string (⟨#[99, 108, 111, 115, 105, 110, 103]⟩ : ByteArray)] from rfl) (Reps.one (show Kd.M Kd.string _ _ _ (⟨#[108, 97, 115, 116, 97, 99, 107]⟩ : ByteArray) [.string (⟨#[108, 97, 115, 116, 97, 99, 107]⟩ : ByteArray)] from rfl) (Reps.one (show Kd.M Kd.string _ _ _ (⟨#[116, 105, 109, 101, 119, 97, 105, 116]⟩ : ByteArray) [.string (⟨#[116, 105, 109, 101, 119, 97, 105, 116]⟩ : ByteArray)] from rfl) (Reps.none _ _)))))))))))); intro v167 w11 ho12 hb hg_ hnew_; clear hg_ hnew_; (first | rw [← Ny166.out] at ho12 | (simp only [Int.reduceToNat] at ho12; rw [← Ny166.out] at ho12)); have n0_ := Aside0.mk (Kd.R_lower ho12 (below_size (by repeat (first | (with_reducible first | exact HB.out | apply below_alloc | apply pw_below_drewN | apply below_drew1) | exact HB.out)))); have n1_ := Aside0.mk (below_step (by repeat (first | (with_reducible first | exact HB.out | apply below_alloc | apply pw_below_drewN | apply below_drew1) | exact HB.out)) hb); clear HB; have HO168 := n0_; have HB := n1_; clear n0_ n1_; clear hb ho12; (try (obtain ⟨Ao13, co13, eo13⟩ := Kd.R_slice HO168.out; subst eo13)); have p169 : 0 ≤ (a0 : Int) := of_decide_eq_true (by first | (with_reducible assumption) | assumption); have q169 : a0 < (y166.length : Int) := of_decide_eq_true (by first | (with_reducible assumption) | assumption); obtain ⟨ad169, e169, hx169_0⟩ := Kd.at_string (Kd.R_reads' HO168.out).2.2 a0 p169 q169; cases e169; replace p169 := eq_true p169; replace q169 := eq_true q169))
          go_ret
          exact ⟨by first | rfl | (simp [errW_none, errW_some] <;> rfl) | (simp [*, errW_none, errW_some] <;> rfl), by repeat (first | (with_reducible first | exact HB.out | apply below_alloc | apply pw_below_drewN | apply below_drew1) | exact HB.out)⟩
        · rw [if_neg c10] at H
          exact absurd H (by simp)
      · rw [if_neg c9] at H
        exact absurd H (by simp)

/-! ### towroperef34_State: function 28 -/
def towroperef34_State.f (a0 : Int) : Option (ByteArray) := (some (([(⟨#[99, 108, 111, 115, 101, 100]⟩ : ByteArray), (⟨#[115, 121, 110, 115, 101, 110, 116]⟩ : ByteArray), (⟨#[115, 121, 110, 114, 99, 118, 100]⟩ : ByteArray), (⟨#[101, 115, 116, 97, 98]⟩ : ByteArray), (⟨#[102, 105, 110, 119, 97, 105, 116, 49]⟩ : ByteArray), (⟨#[102, 105, 110, 119, 97, 105, 116, 50]⟩ : ByteArray), (⟨#[99, 108, 111, 115, 101, 119, 97, 105, 116]⟩ : ByteArray), (⟨#[99, 108, 111, 115, 105, 110, 103]⟩ : ByteArray), (⟨#[108, 97, 115, 116, 97, 99, 107]⟩ : ByteArray), (⟨#[116, 105, 109, 101, 119, 97, 105, 116]⟩ : ByteArray)] : List ByteArray) : List ByteArray)).bind fun y170 => (if a0 < 0 then (some (⟨#[63]⟩ : ByteArray)) else (if a0 > 9 then (some (⟨#[63]⟩ : ByteArray)) else (if 0 ≤ a0 then (if a0 < (y170.length : Int) then (some (rdOf ByteArray.empty y170 a0)) else (none)) else (none))))
set_option maxHeartbeats 8000000 in
set_option maxRecDepth 100000 in
theorem towroperef34_State.calls (a0 : Int) (r : ByteArray) (w : World) (h : towroperef34_State.f a0 = some r) :
    Calls Tryd.prog 28 #[.int .i64 a0] w fun e w' => e = .returned (.string r) ∧ Below w.heap.size w w' := by
  have HB := Aside0.mk (Below.refl w.heap.size w)
  have H : ((some (([(⟨#[99, 108, 111, 115, 101, 100]⟩ : ByteArray), (⟨#[115, 121, 110, 115, 101, 110, 116]⟩ : ByteArray), (⟨#[115, 121, 110, 114, 99, 118, 100]⟩ : ByteArray), (⟨#[101, 115, 116, 97, 98]⟩ : ByteArray), (⟨#[102, 105, 110, 119, 97, 105, 116, 49]⟩ : ByteArray), (⟨#[102, 105, 110, 119, 97, 105, 116, 50]⟩ : ByteArray), (⟨#[99, 108, 111, 115, 101, 119, 97, 105, 116]⟩ : ByteArray), (⟨#[99, 108, 111, 115, 105, 110, 103]⟩ : ByteArray), (⟨#[108, 97, 115, 116, 97, 99, 107]⟩ : ByteArray), (⟨#[116, 105, 109, 101, 119, 97, 105, 116]⟩ : ByteArray)] : List ByteArray) : List ByteArray)).bind fun y170 => (if a0 < 0 then (some (⟨#[63]⟩ : ByteArray)) else (if a0 > 9 then (some (⟨#[63]⟩ : ByteArray)) else (if 0 ≤ a0 then (if a0 < (y170.length : Int) then (some (rdOf ByteArray.empty y170 a0)) else (none)) else (none))))) = some r := h
  clear h
  obtain ⟨y170, hy170⟩ : ∃ y_ : List ByteArray, y_ = (([(⟨#[99, 108, 111, 115, 101, 100]⟩ : ByteArray), (⟨#[115, 121, 110, 115, 101, 110, 116]⟩ : ByteArray), (⟨#[115, 121, 110, 114, 99, 118, 100]⟩ : ByteArray), (⟨#[101, 115, 116, 97, 98]⟩ : ByteArray), (⟨#[102, 105, 110, 119, 97, 105, 116, 49]⟩ : ByteArray), (⟨#[102, 105, 110, 119, 97, 105, 116, 50]⟩ : ByteArray), (⟨#[99, 108, 111, 115, 101, 119, 97, 105, 116]⟩ : ByteArray), (⟨#[99, 108, 111, 115, 105, 110, 103]⟩ : ByteArray), (⟨#[108, 97, 115, 116, 97, 99, 107]⟩ : ByteArray), (⟨#[116, 105, 109, 101, 119, 97, 105, 116]⟩ : ByteArray)] : List ByteArray)) := ⟨_, rfl⟩
  replace H : (if a0 < 0 then (some (⟨#[63]⟩ : ByteArray)) else (if a0 > 9 then (some (⟨#[63]⟩ : ByteArray)) else (if 0 ≤ a0 then (if a0 < (y170.length : Int) then (some (rdOf ByteArray.empty y170 a0)) else (none)) else (none)))) = some r := by first | (rw [hy170]; with_reducible exact H) | (have H2_ := (Option.bind_some _ _).symm.trans H; rw [hy170]; with_reducible exact H2_) | (have H2_ := (Option.bind_some _ _).symm.trans H; with_reducible exact H2_) | with_reducible exact H | (rw [hy170]; exact H) | exact H
  have Ny170 := Aside0.mk hy170
  clear hy170
  by_cases c2 : a0 < 0
  · rw [if_pos c2] at H
    have c2b0 : decide (a0 < 0) = true := decide_eq_true c2
    clear c2
    obtain rfl := Option.some.inj H
    go_enter Tryd.func28, Tryd.ntmps28
    go_wp2_with (first | ((with_reducible refine gate_dst (N := 4) rfl ?_); refine Kd.R_lit Kd.string _ 9 ?hg (N := 4) ?hd (xs := ([(⟨#[99, 108, 111, 115, 101, 100]⟩ : ByteArray), (⟨#[115, 121, 110, 115, 101, 110, 116]⟩ : ByteArray), (⟨#[115, 121, 110, 114, 99, 118, 100]⟩ : ByteArray), (⟨#[101, 115, 116, 97, 98]⟩ : ByteArray), (⟨#[102, 105, 110, 119, 97, 105, 116, 49]⟩ : ByteArray), (⟨#[102, 105, 110, 119, 97, 105, 116, 50]⟩ : ByteArray), (⟨#[99, 108, 111, 115, 101, 119, 97, 105, 116]⟩ : ByteArray), (⟨#[99, 108, 111, 115, 105, 110, 103]⟩ : ByteArray), (⟨#[108, 97, 115, 116, 97, 99, 107]⟩ : ByteArray), (⟨#[116, 105, 109, 101, 119, 97, 105, 116]⟩ : ByteArray)] : List ByteArray)) (inner := [.string (⟨#[99, 108, 111, 115, 101, 100]⟩ : ByteArray), .string (⟨#[115, 121, 110, 115, 101, 110, 116]⟩ : ByteArray), .string (⟨#[115, 121, 110, 114, 99, 118, 100]⟩ : ByteArray), .string (⟨#[101, 115, 116, 97, 98]⟩ : ByteArray), .string (⟨#[102, 105, 110, 119, 97, 105, 116, 49]⟩ : ByteArray), .string (⟨#[102, 105, 110, 119, 97, 105, 116, 50]⟩ : ByteArray), .string (⟨#[99, 108, 111, 115, 101, 119, 97, 105, 116]⟩ : ByteArray), .string (⟨#[99, 108, 111, 115, 105, 110, 103]⟩ : ByteArray), .string (⟨#[108, 97, 115, 116, 97, 99, 107]⟩ : ByteArray), .string (⟨#[116, 105, 109, 101, 119, 97, 105, 116]⟩ : ByteArray)]) (ok := fun _ => True) (okp := fun _ => True) ?hr ?hp (fun _ hk => hk) trivial (Below.refl _ _) (Nat.le_refl _) (by simp) ?_; (case hd => rfl); (case hg => rfl); (case hr => first | (go_simp; done) | (go_simp; rfl)); (case hp => exact (Reps.one (show Kd.M Kd.string _ _ _ (⟨#[99, 108, 111, 115, 101, 100]⟩ : ByteArray) [.string (⟨#[99, 108, 111, 115, 101, 100]⟩ : ByteArray)] from rfl) (Reps.one (show Kd.M Kd.string _ _ _ (⟨#[115, 121, 110, 115, 101, 110, 116]⟩ : ByteArray) [.string (⟨#[115, 121, 110, 115, 101, 110, 116]⟩ : ByteArray)] from rfl) (Reps.one (show Kd.M Kd.string _ _ _ (⟨#[115, 121, 110, 114, 99, 118, 100]⟩ : ByteArray) [.string (⟨#[115, 121, 110, 114, 99, 118, 100]⟩ : ByteArray)] from rfl) (Reps.one (show Kd.M Kd.string _ _ _ (⟨#[101, 115, 116, 97, 98]⟩ : ByteArray) [.string (⟨#[101, 115, 116, 97, 98]⟩ : ByteArray)] from rfl) (Reps.one (show Kd.M Kd.string _ _ _ (⟨#[102, 105, 110, 119, 97, 105, 116, 49]⟩ : ByteArray) [.string (⟨#[102, 105, 110, 119, 97, 105, 116, 49]⟩ : ByteArray)] from rfl) (Reps.one (show Kd.M Kd.string _ _ _ (⟨#[102, 105, 110, 119, 97, 105, 116, 50]⟩ : ByteArray) [.string (⟨#[102, 105, 110, 119, 97, 105, 116, 50]⟩ : ByteArray)] from rfl) (Reps.one (show Kd.M Kd.string _ _ _ (⟨#[99, 108, 111, 115, 101, 119, 97, 105, 116]⟩ : ByteArray) [.string (⟨#[99, 108, 111, 115, 101, 119, 97, 105, 116]⟩ : ByteArray)] from rfl) (Reps.one (show Kd.M Kd.string _ _ _ (⟨#[99, 108, 111, 115, 105, 110, 103]⟩ : ByteArray) [.string (⟨#[99, 108, 111, 115, 105, 110, 103]⟩ : ByteArray)] from rfl) (Reps.one (show Kd.M Kd.string _ _ _ (⟨#[108, 97, 115, 116, 97, 99, 107]⟩ : ByteArray) [.string (⟨#[108, 97, 115, 116, 97, 99, 107]⟩ : ByteArray)] from rfl) (Reps.one (show Kd.M Kd.string _ _ _ (⟨#[116, 105, 109, 101, 119, 97, 105, 116]⟩ : ByteArray) [.string (⟨#[116, 105, 109, 101, 119, 97, 105, 116]⟩ : ByteArray)] from rfl) (Reps.none _ _)))))))))))); intro v171 w3 ho4 hb hg_ hnew_; clear hg_ hnew_; (first | rw [← Ny170.out] at ho4 | (simp only [Int.reduceToNat] at ho4; rw [← Ny170.out] at ho4)); have n0_ := Aside0.mk (Kd.R_lower ho4 (below_size (by repeat (first | (with_reducible first | exact HB.out | apply below_alloc | apply pw_below_drewN | apply below_drew1) | exact HB.out)))); have n1_ := Aside0.mk (below_step (by repeat (first | (with_reducible first | exact HB.out | apply below_alloc | apply pw_below_drewN | apply below_drew1) | exact HB.out)) hb); clear HB; have HO172 := n0_; have HB := n1_; clear n0_ n1_; clear hb ho4))
    go_ret
    exact ⟨by first | rfl | (simp [errW_none, errW_some] <;> rfl) | (simp [*, errW_none, errW_some] <;> rfl), by repeat (first | (with_reducible first | exact HB.out | apply below_alloc | apply pw_below_drewN | apply below_drew1) | exact HB.out)⟩
  · rw [if_neg c2] at H
    have c2b0 : decide (a0 < 0) = false := decide_eq_false c2
    clear c2
    by_cases c5 : a0 > 9
    · rw [if_pos c5] at H
      have c5b0 : decide (9 < a0) = true := decide_eq_true c5
      clear c5
      obtain rfl := Option.some.inj H
      go_enter Tryd.func28, Tryd.ntmps28
      go_wp2_with (first | ((with_reducible refine gate_dst (N := 4) rfl ?_); refine Kd.R_lit Kd.string _ 9 ?hg (N := 4) ?hd (xs := ([(⟨#[99, 108, 111, 115, 101, 100]⟩ : ByteArray), (⟨#[115, 121, 110, 115, 101, 110, 116]⟩ : ByteArray), (⟨#[115, 121, 110, 114, 99, 118, 100]⟩ : ByteArray), (⟨#[101, 115, 116, 97, 98]⟩ : ByteArray), (⟨#[102, 105, 110, 119, 97, 105, 116, 49]⟩ : ByteArray), (⟨#[102, 105, 110, 119, 97, 105, 116, 50]⟩ : ByteArray), (⟨#[99, 108, 111, 115, 101, 119, 97, 105, 116]⟩ : ByteArray), (⟨#[99, 108, 111, 115, 105, 110, 103]⟩ : ByteArray), (⟨#[108, 97, 115, 116, 97, 99, 107]⟩ : ByteArray), (⟨#[116, 105, 109, 101, 119, 97, 105, 116]⟩ : ByteArray)] : List ByteArray)) (inner := [.string (⟨#[99, 108, 111, 115, 101, 100]⟩ : ByteArray), .string (⟨#[115, 121, 110, 115, 101, 110, 116]⟩ : ByteArray), .string (⟨#[115, 121, 110, 114, 99, 118, 100]⟩ : ByteArray), .string (⟨#[101, 115, 116, 97, 98]⟩ : ByteArray), .string (⟨#[102, 105, 110, 119, 97, 105, 116, 49]⟩ : ByteArray), .string (⟨#[102, 105, 110, 119, 97, 105, 116, 50]⟩ : ByteArray), .string (⟨#[99, 108, 111, 115, 101, 119, 97, 105, 116]⟩ : ByteArray), .string (⟨#[99, 108, 111, 115, 105, 110, 103]⟩ : ByteArray), .string (⟨#[108, 97, 115, 116, 97, 99, 107]⟩ : ByteArray), .string (⟨#[116, 105, 109, 101, 119, 97, 105, 116]⟩ : ByteArray)]) (ok := fun _ => True) (okp := fun _ => True) ?hr ?hp (fun _ hk => hk) trivial (Below.refl _ _) (Nat.le_refl _) (by simp) ?_; (case hd => rfl); (case hg => rfl); (case hr => first | (go_simp; done) | (go_simp; rfl)); (case hp => exact (Reps.one (show Kd.M Kd.string _ _ _ (⟨#[99, 108, 111, 115, 101, 100]⟩ : ByteArray) [.string (⟨#[99, 108, 111, 115, 101, 100]⟩ : ByteArray)] from rfl) (Reps.one (show Kd.M Kd.string _ _ _ (⟨#[115, 121, 110, 115, 101, 110, 116]⟩ : ByteArray) [.string (⟨#[115, 121, 110, 115, 101, 110, 116]⟩ : ByteArray)] from rfl) (Reps.one (show Kd.M Kd.string _ _ _ (⟨#[115, 121, 110, 114, 99, 118, 100]⟩ : ByteArray) [.string (⟨#[115, 121, 110, 114, 99, 118, 100]⟩ : ByteArray)] from rfl) (Reps.one (show Kd.M Kd.string _ _ _ (⟨#[101, 115, 116, 97, 98]⟩ : ByteArray) [.string (⟨#[101, 115, 116, 97, 98]⟩ : ByteArray)] from rfl) (Reps.one (show Kd.M Kd.string _ _ _ (⟨#[102, 105, 110, 119, 97, 105, 116, 49]⟩ : ByteArray) [.string (⟨#[102, 105, 110, 119, 97, 105, 116, 49]⟩ : ByteArray)] from rfl) (Reps.one (show Kd.M Kd.string _ _ _ (⟨#[102, 105, 110, 119, 97, 105, 116, 50]⟩ : ByteArray) [.string (⟨#[102, 105, 110, 119, 97, 105, 116, 50]⟩ : ByteArray)] from rfl) (Reps.one (show Kd.M Kd.string _ _ _ (⟨#[99, 108, 111, 115, 101, 119, 97, 105, 116]⟩ : ByteArray) [.string (⟨#[99, 108, 111, 115, 101, 119, 97, 105, 116]⟩ : ByteArray)] from rfl) (Reps.one (show Kd.M Kd.string _ _ _ (⟨#[99, 108, 111, 115, 105, 110, 103]⟩ : ByteArray) [.string (⟨#[99, 108, 111, 115, 105, 110, 103]⟩ : ByteArray)] from rfl) (Reps.one (show Kd.M Kd.string _ _ _ (⟨#[108, 97, 115, 116, 97, 99, 107]⟩ : ByteArray) [.string (⟨#[108, 97, 115, 116, 97, 99, 107]⟩ : ByteArray)] from rfl) (Reps.one (show Kd.M Kd.string _ _ _ (⟨#[116, 105, 109, 101, 119, 97, 105, 116]⟩ : ByteArray) [.string (⟨#[116, 105, 109, 101, 119, 97, 105, 116]⟩ : ByteArray)] from rfl) (Reps.none _ _)))))))))))); intro v171 w6 ho7 hb hg_ hnew_; clear hg_ hnew_; (first | rw [← Ny170.out] at ho7 | (simp only [Int.reduceToNat] at ho7; rw [← Ny170.out] at ho7)); have n0_ := Aside0.mk (Kd.R_lower ho7 (below_size (by repeat (first | (with_reducible first | exact HB.out | apply below_alloc | apply pw_below_drewN | apply below_drew1) | exact HB.out)))); have n1_ := Aside0.mk (below_step (by repeat (first | (with_reducible first | exact HB.out | apply below_alloc | apply pw_below_drewN | apply below_drew1) | exact HB.out)) hb); clear HB; have HO172 := n0_; have HB := n1_; clear n0_ n1_; clear hb ho7))
      go_ret
      exact ⟨by first | rfl | (simp [errW_none, errW_some] <;> rfl) | (simp [*, errW_none, errW_some] <;> rfl), by repeat (first | (with_reducible first | exact HB.out | apply below_alloc | apply pw_below_drewN | apply below_drew1) | exact HB.out)⟩
    · rw [if_neg c5] at H
      have c5b0 : decide (9 < a0) = false := decide_eq_false c5
      clear c5
      by_cases c8 : 0 ≤ a0
      · rw [if_pos c8] at H
        have c8b0 : decide (0 ≤ a0) = true := decide_eq_true c8
        clear c8
        by_cases c9 : a0 < (y170.length : Int)
        · rw [if_pos c9] at H
          have c9b0 : decide (a0 < (y170.length : Int)) = true := decide_eq_true c9
          clear c9
          obtain rfl := Option.some.inj H
          go_enter Tryd.func28, Tryd.ntmps28
          go_wp2_with (first | ((with_reducible refine gate_dst (N := 4) rfl ?_); refine Kd.R_lit Kd.string _ 9 ?hg (N := 4) ?hd (xs := ([(⟨#[99, 108, 111, 115, 101, 100]⟩ : ByteArray), (⟨#[115, 121, 110, 115, 101, 110, 116]⟩ : ByteArray), (⟨#[115, 121, 110, 114, 99, 118, 100]⟩ : ByteArray), (⟨#[101, 115, 116, 97, 98]⟩ : ByteArray), (⟨#[102, 105, 110, 119, 97, 105, 116, 49]⟩ : ByteArray), (⟨#[102, 105, 110, 119, 97, 105, 116, 50]⟩ : ByteArray), (⟨#[99, 108, 111, 115, 101, 119, 97, 105, 116]⟩ : ByteArray), (⟨#[99, 108, 111, 115, 105, 110, 103]⟩ : ByteArray), (⟨#[108, 97, 115, 116, 97, 99, 107]⟩ : ByteArray), (⟨#[116, 105, 109, 101, 119, 97, 105, 116]⟩ : ByteArray)] : List ByteArray)) (inner := [.string (⟨#[99, 108, 111, 115, 101, 100]⟩ : ByteArray), .string (⟨#[115, 121, 110, 115, 101, 110, 116]⟩ : ByteArray), .string (⟨#[115, 121, 110, 114, 99, 118, 100]⟩ : ByteArray), .string (⟨#[101, 115, 116, 97, 98]⟩ : ByteArray), .string (⟨#[102, 105, 110, 119, 97, 105, 116, 49]⟩ : ByteArray), .string (⟨#[102, 105, 110, 119, 97, 105, 116, 50]⟩ : ByteArray), .string (⟨#[99, 108, 111, 115, 101, 119, 97, 105, 116]⟩ : ByteArray), .string (⟨#[99, 108, 111, 115, 105, 110, 103]⟩ : ByteArray), .string (⟨#[108, 97, 115, 116, 97, 99, 107]⟩ : ByteArray), .string (⟨#[116, 105, 109, 101, 119, 97, 105, 116]⟩ : ByteArray)]) (ok := fun _ => True) (okp := fun _ => True) ?hr ?hp (fun _ hk => hk) trivial (Below.refl _ _) (Nat.le_refl _) (by simp) ?_; (case hd => rfl); (case hg => rfl); (case hr => first | (go_simp; done) | (go_simp; rfl)); (case hp => exact (Reps.one (show Kd.M Kd.string _ _ _ (⟨#[99, 108, 111, 115, 101, 100]⟩ : ByteArray) [.string (⟨#[99, 108, 111, 115, 101, 100]⟩ : ByteArray)] from rfl) (Reps.one (show Kd.M Kd.string _ _ _ (⟨#[115, 121, 110, 115, 101, 110, 116]⟩ : ByteArray) [.string (⟨#[115, 121, 110, 115, 101, 110, 116]⟩ : ByteArray)] from rfl) (Reps.one (show Kd.M Kd.string _ _ _ (⟨#[115, 121, 110, 114, 99, 118, 100]⟩ : ByteArray) [.string (⟨#[115, 121, 110, 114, 99, 118, 100]⟩ : ByteArray)] from rfl) (Reps.one (show Kd.M Kd.string _ _ _ (⟨#[101, 115, 116, 97, 98]⟩ : ByteArray) [.string (⟨#[101, 115, 116, 97, 98]⟩ : ByteArray)] from rfl) (Reps.one (show Kd.M Kd.string _ _ _ (⟨#[102, 105, 110, 119, 97, 105, 116, 49]⟩ : ByteArray) [.string (⟨#[102, 105, 110, 119, 97, 105, 116, 49]⟩ : ByteArray)] from rfl) (Reps.one (show Kd.M Kd.string _ _ _ (⟨#[102, 105, 110, 119, 97, 105, 116, 50]⟩ : ByteArray) [.string (⟨#[102, 105, 110, 119, 97, 105, 116, 50]⟩ : ByteArray)] from rfl) (Reps.one (show Kd.M Kd.string _ _ _ (⟨#[99, 108, 111, 115, 101, 119, 97, 105, 116]⟩ : ByteArray) [.string (⟨#[99, 108, 111, 115, 101, 119, 97, 105, 116]⟩ : ByteArray)] from rfl) (Reps.one (show Kd.M Kd.string _ _ _ (⟨#[99, 108, 111, 115, 105, 110, 103]⟩ : ByteArray) [.string (⟨#[99, 108, 111, 115, 105, 110, 103]⟩ : ByteArray)] from rfl) (Reps.one (show Kd.M Kd.string _ _ _ (⟨#[108, 97, 115, 116, 97, 99, 107]⟩ : ByteArray) [.string (⟨#[108, 97, 115, 116, 97, 99, 107]⟩ : ByteArray)] from rfl) (Reps.one (show Kd.M Kd.string _ _ _ (⟨#[116, 105, 109, 101, 119, 97, 105, 116]⟩ : ByteArray) [.string (⟨#[116, 105, 109, 101, 119, 97, 105, 116]⟩ : ByteArray)] from rfl) (Reps.none _ _)))))))))))); intro v171 w10 ho11 hb hg_ hnew_; clear hg_ hnew_; (first | rw [← Ny170.out] at ho11 | (simp only [Int.reduceToNat] at ho11; rw [← Ny170.out] at ho11)); have n0_ := Aside0.mk (Kd.R_lower ho11 (below_size (by repeat (first | (with_reducible first | exact HB.out | apply below_alloc | apply pw_below_drewN | apply below_drew1) | exact HB.out)))); have n1_ := Aside0.mk (below_step (by repeat (first | (with_reducible first | exact HB.out | apply below_alloc | apply pw_below_drewN | apply below_drew1) | exact HB.out)) hb); clear HB; have HO172 := n0_; have HB := n1_; clear n0_ n1_; clear hb ho11; (try (obtain ⟨Ao12, co12, eo12⟩ := Kd.R_slice HO172.out; subst eo12)); have p173 : 0 ≤ (a0 : Int) := of_decide_eq_true (by first | (with_reducible assumption) | assumption); have q173 : a0 < (y170.length : Int) := of_decide_eq_true (by first | (with_reducible assumption) | assumption); obtain ⟨ad173, e173, hx173_0⟩ := Kd.at_string (Kd.R_reads' HO172.out).2.2 a0 p173 q173; cases e173; replace p173 := eq_true p173; replace q173 := eq_true q173))
          go_ret
          exact ⟨by first | rfl | (simp [errW_none, errW_some] <;> rfl) | (simp [*, errW_none, errW_some] <;> rfl), by repeat (first | (with_reducible first | exact HB.out | apply below_alloc | apply pw_below_drewN | apply below_drew1) | exact HB.out)⟩
        · rw [if_neg c9] at H
          exact absurd H (by simp)
      · rw [if_neg c8] at H
        exact absurd H (by simp)

/-! ### tell_Flags: function 29 -/
def tell_Flags.l0 : Nat → Int → ByteArray → List ByteArray → Int → Int → Option (ByteArray)
  | 0, _, _, _, _, _ => none
  | k + 1, x0, x3, x6, x7, x8 => if x8 < x7 then (if 0 ≤ x8 then (if x8 < (x6.length : Int) then (if (Go.bits .and .u8 (shr .u8 x0 x8) 1) = 1 then (if x3.size + (rdOf ByteArray.empty x6 x8).size ≤ 9223372036854775807 then (tell_Flags.l0 k x0 (x3 ++ (rdOf ByteArray.empty x6 x8)) x6 x7 (wrap64 (x8 + 1))) else (none)) else (tell_Flags.l0 k x0 x3 x6 x7 (wrap64 (x8 + 1)))) else (none)) else (none)) else (if x3.toList = ([] : List UInt8) then (some (⟨#[46]⟩ : ByteArray)) else (some x3))
def tell_Flags.f (k : Nat) (a0 : Int) : Option (ByteArray) := (some (([(⟨#[70]⟩ : ByteArray), (⟨#[83]⟩ : ByteArray), (⟨#[82]⟩ : ByteArray), (⟨#[80]⟩ : ByteArray), (⟨#[65]⟩ : ByteArray), (⟨#[85]⟩ : ByteArray)] : List ByteArray) : List ByteArray)).bind fun y174 => (tell_Flags.l0 k a0 (⟨#[]⟩ : ByteArray) y174 (y174.length : Int) 0)
theorem tell_Flags.mono_l : ∀ k, (∀ y0 y1 y2 y3 y4, LeO (tell_Flags.l0 k y0 y1 y2 y3 y4) (tell_Flags.l0 (k + 1) y0 y1 y2 y3 y4))
  | 0 => fun _ _ _ _ _ r h => by simp [tell_Flags.l0] at h
  | k + 1 => by
    have ih0 := tell_Flags.mono_l k
    · intro y0 y1 y2 y3 y4
      unfold tell_Flags.l0
      repeat' first
      | (with_reducible exact ih0 _ _ _ _ _)
      | (with_reducible exact LeO.refl _)
      | (with_reducible exact LeO.none _)
      | (with_reducible refine LeO.ite ?_ ?_)
      | (with_reducible refine LeO.bind ?_ (fun _ => ?_))
      | exact ih0 _ _ _ _ _
      | exact LeO.none _
      | refine LeO.ite ?_ ?_
      | refine LeO.bind ?_ (fun _ => ?_)
theorem tell_Flags.mono : ∀ a0 k, LeO (tell_Flags.f k a0) (tell_Flags.f (k + 1) a0) := by
  intro a0 k
  have ih0 := tell_Flags.mono_l k
  unfold tell_Flags.f
  repeat' first
      | (with_reducible exact ih0 _ _ _ _ _)
      | (with_reducible exact LeO.refl _)
      | (with_reducible exact LeO.none _)
      | (with_reducible refine LeO.ite ?_ ?_)
      | (with_reducible refine LeO.bind ?_ (fun _ => ?_))
      | exact ih0 _ _ _ _ _
      | exact LeO.none _
      | refine LeO.ite ?_ ?_
      | refine LeO.bind ?_ (fun _ => ?_)
set_option maxHeartbeats 8000000 in
set_option maxRecDepth 100000 in
theorem tell_Flags.calls (k : Nat) (a0 : Int) (r : ByteArray) (w : World) (h : tell_Flags.f k a0 = some r) :
    Calls Tryd.prog 29 #[.int .u8 a0] w fun e w' => e = .returned (.string r) ∧ Below w.heap.size w w' := by
  have HB := Aside0.mk (Below.refl w.heap.size w)
  have H : ((some (([(⟨#[70]⟩ : ByteArray), (⟨#[83]⟩ : ByteArray), (⟨#[82]⟩ : ByteArray), (⟨#[80]⟩ : ByteArray), (⟨#[65]⟩ : ByteArray), (⟨#[85]⟩ : ByteArray)] : List ByteArray) : List ByteArray)).bind fun y174 => (tell_Flags.l0 k a0 (⟨#[]⟩ : ByteArray) y174 (y174.length : Int) 0)) = some r := h
  clear h
  obtain ⟨y174, hy174⟩ : ∃ y_ : List ByteArray, y_ = (([(⟨#[70]⟩ : ByteArray), (⟨#[83]⟩ : ByteArray), (⟨#[82]⟩ : ByteArray), (⟨#[80]⟩ : ByteArray), (⟨#[65]⟩ : ByteArray), (⟨#[85]⟩ : ByteArray)] : List ByteArray)) := ⟨_, rfl⟩
  replace H : (tell_Flags.l0 k a0 (⟨#[]⟩ : ByteArray) y174 (y174.length : Int) 0) = some r := by first | (rw [hy174]; with_reducible exact H) | (have H2_ := (Option.bind_some _ _).symm.trans H; rw [hy174]; with_reducible exact H2_) | (have H2_ := (Option.bind_some _ _).symm.trans H; with_reducible exact H2_) | with_reducible exact H | (rw [hy174]; exact H) | exact H
  have Ny174 := Aside0.mk hy174
  clear hy174
  have H' := Aside0.mk H
  clear H
  go_enter Tryd.func29, Tryd.ntmps29
  go_wp2_with (first | ((with_reducible refine gate_dst (N := 6) rfl ?_); refine Kd.R_lit Kd.string _ 9 ?hg (N := 6) ?hd (xs := ([(⟨#[70]⟩ : ByteArray), (⟨#[83]⟩ : ByteArray), (⟨#[82]⟩ : ByteArray), (⟨#[80]⟩ : ByteArray), (⟨#[65]⟩ : ByteArray), (⟨#[85]⟩ : ByteArray)] : List ByteArray)) (inner := [.string (⟨#[70]⟩ : ByteArray), .string (⟨#[83]⟩ : ByteArray), .string (⟨#[82]⟩ : ByteArray), .string (⟨#[80]⟩ : ByteArray), .string (⟨#[65]⟩ : ByteArray), .string (⟨#[85]⟩ : ByteArray)]) (ok := fun _ => True) (okp := fun _ => True) ?hr ?hp (fun _ hk => hk) trivial (Below.refl _ _) (Nat.le_refl _) (by simp) ?_; (case hd => rfl); (case hg => rfl); (case hr => first | (go_simp; done) | (go_simp; rfl)); (case hp => exact (Reps.one (show Kd.M Kd.string _ _ _ (⟨#[70]⟩ : ByteArray) [.string (⟨#[70]⟩ : ByteArray)] from rfl) (Reps.one (show Kd.M Kd.string _ _ _ (⟨#[83]⟩ : ByteArray) [.string (⟨#[83]⟩ : ByteArray)] from rfl) (Reps.one (show Kd.M Kd.string _ _ _ (⟨#[82]⟩ : ByteArray) [.string (⟨#[82]⟩ : ByteArray)] from rfl) (Reps.one (show Kd.M Kd.string _ _ _ (⟨#[80]⟩ : ByteArray) [.string (⟨#[80]⟩ : ByteArray)] from rfl) (Reps.one (show Kd.M Kd.string _ _ _ (⟨#[65]⟩ : ByteArray) [.string (⟨#[65]⟩ : ByteArray)] from rfl) (Reps.one (show Kd.M Kd.string _ _ _ (⟨#[85]⟩ : ByteArray) [.string (⟨#[85]⟩ : ByteArray)] from rfl) (Reps.none _ _)))))))); intro v175 w2 ho3 hb hg_ hnew_; clear hg_ hnew_; (first | rw [← Ny174.out] at ho3 | (simp only [Int.reduceToNat] at ho3; rw [← Ny174.out] at ho3)); have n0_ := Aside0.mk (Kd.R_lower ho3 (below_size (by repeat (first | (with_reducible first | exact HB.out | apply below_alloc | apply pw_below_drewN | apply below_drew1) | exact HB.out)))); have n1_ := Aside0.mk (below_step (by repeat (first | (with_reducible first | exact HB.out | apply below_alloc | apply pw_below_drewN | apply below_drew1) | exact HB.out)) hb); clear HB; have HO176 := n0_; have HB := n1_; clear n0_ n1_; clear hb ho3; (try (obtain ⟨Ao4, co4, eo4⟩ := Kd.R_slice HO176.out; subst eo4))))
  go_loopg [3, 8] k (fun kq v3 v8 w' => ∃ (x3_1 : ByteArray) (x8_1 : Int), v3 = .string x3_1 ∧ v8 = .int .i64 x8_1 ∧ Aside0 (tell_Flags.l0 kq a0 x3_1 y174 (y174.length : Int) x8_1 = some r) ∧ Aside0 (kq ≤ k) ∧ Aside0 (Kd.R Kd.string 9 w' w.heap.size (fun _ => True) (.slice Ao4 y174.length co4) y174) ∧ Aside0 (Below w.heap.size w w'))
  case atStart => exact ⟨((⟨#[]⟩ : ByteArray)), (0), (by first | rfl | (simp; done) | (simp [*]; done)), (by first | rfl | (simp; done) | (simp [*]; done)), H', ⟨Nat.le_refl _⟩, ⟨by (with_reducible repeat (first | apply Kd.R_alloc | apply Kd.R_drewN | apply Kd.R_drew)); exact HO176.out⟩, ⟨by repeat (first | (with_reducible first | exact HB.out | apply below_alloc | apply pw_below_drewN | apply below_drew1) | exact HB.out)⟩⟩
  case round =>
    clear H'
    try clear c2
    try clear p2
    obtain ⟨x3_1, x8_1, rfl, rfl, HA, HK1, HO_6, HB⟩ := hrel
    cases gk with
    | zero => exact absurd HA.out (by simp [tell_Flags.l0])
    | succ k1 =>
      have H := HA.out
      clear HA
      simp only [tell_Flags.l0] at H
      by_cases c5 : x8_1 < (y174.length : Int)
      · rw [if_pos c5] at H
        have c5b0 : decide (x8_1 < (y174.length : Int)) = true := decide_eq_true c5
        clear c5
        by_cases c6 : 0 ≤ x8_1
        · rw [if_pos c6] at H
          have c6b0 : decide (0 ≤ x8_1) = true := decide_eq_true c6
          clear c6
          by_cases c7 : x8_1 < (y174.length : Int)
          · rw [if_pos c7] at H
            have c7b0 : decide (x8_1 < (y174.length : Int)) = true := decide_eq_true c7
            clear c7
            have c8b0 := eq_true (of_decide_eq_true (by first | (with_reducible assumption) | assumption) : 0 ≤ x8_1)
            obtain ⟨ji9, hji9⟩ : ∃ j_ : Int, (shr .u8 a0 x8_1) = j_ := ⟨_, rfl⟩
            replace H : (if (Go.bits .and .u8 (ji9) 1) = 1 then (if x3_1.size + (rdOf ByteArray.empty y174 x8_1).size ≤ 9223372036854775807 then (tell_Flags.l0 k1 a0 (x3_1 ++ (rdOf ByteArray.empty y174 x8_1)) y174 (y174.length : Int) (wrap64 (x8_1 + 1))) else (none)) else (tell_Flags.l0 k1 a0 x3_1 y174 (y174.length : Int) (wrap64 (x8_1 + 1)))) = some r := by first | (rw [hji9] at H; exact H) | (simp only [hji9] at H ⊢; exact H)
            have hji9_ : (a0 / 2 ^ min x8_1.toNat 8) = ji9 := hji9
            have hji9z : x8_1 ≤ 8 → (a0 / 2 ^ x8_1.toNat) = ji9 := shr_small hji9
            by_cases c10 : (Go.bits .and .u8 (ji9) 1) = 1
            · rw [if_pos c10] at H
              have c10b0 : ((Go.bits .and .u8 (ji9) 1) == 1) = true := beq_iff_eq.mpr c10
              have c10b1 : ((Go.bits .and .u8 (ji9) 1) != 1) = false := bne_eq_false_iff_eq.mpr c10
              clear c10
              by_cases c11 : x3_1.size + (rdOf ByteArray.empty y174 x8_1).size ≤ 9223372036854775807
              · rw [if_pos c11] at H
                have c11b0 := eq_true c11
                have c11b1 : decide (x3_1.size + (rdOf ByteArray.empty y174 x8_1).size ≤ 9223372036854775807) = true := decide_eq_true c11
                try have c11b2 : (9223372036854775807 < x3_1.size + (rdOf ByteArray.empty y174 x8_1).size) = False := eq_false (Nat.not_lt.2 c11)
                have H' := Aside0.mk H
                clear H
                have p177 : 0 ≤ (x8_1 : Int) := of_decide_eq_true (by first | (with_reducible assumption) | assumption)
                have q177 : x8_1 < (y174.length : Int) := of_decide_eq_true (by first | (with_reducible assumption) | assumption)
                obtain ⟨ad177, e177, hx177_0⟩ := Kd.at_string (Kd.R_reads' HO_6.out).2.2 x8_1 p177 q177
                cases e177
                replace p177 := eq_true p177
                replace q177 := eq_true q177
                go_wp2
                go_roundg k1
                case measure => have := HK1.out; omega
                case rel => exact ⟨(x3_1 ++ (rdOf ByteArray.empty y174 x8_1)), (wrap64 (x8_1 + 1)), (by first | rfl | (simp; done) | (simp [*]; done)), (by first | rfl | (simp; done) | (simp [*]; done)), H', ⟨by have := HK1.out; omega⟩, ⟨by (with_reducible repeat (first | apply Kd.R_alloc | apply Kd.R_drewN | apply Kd.R_drew)); exact HO_6.out⟩, ⟨by repeat (first | (with_reducible first | exact HB.out | apply below_alloc | apply pw_below_drewN | apply below_drew1) | exact HB.out)⟩⟩
              · rw [if_neg c11] at H
                exact absurd H (by simp)
            · rw [if_neg c10] at H
              have c10b0 : ((Go.bits .and .u8 (ji9) 1) == 1) = false := beq_eq_false_iff_ne.mpr c10
              have c10b1 : ((Go.bits .and .u8 (ji9) 1) != 1) = true := bne_iff_ne.mpr c10
              have H' := Aside0.mk H
              clear H
              have p177 : 0 ≤ (x8_1 : Int) := of_decide_eq_true (by first | (with_reducible assumption) | assumption)
              have q177 : x8_1 < (y174.length : Int) := of_decide_eq_true (by first | (with_reducible assumption) | assumption)
              obtain ⟨ad177, e177, hx177_0⟩ := Kd.at_string (Kd.R_reads' HO_6.out).2.2 x8_1 p177 q177
              cases e177
              replace p177 := eq_true p177
              replace q177 := eq_true q177
              go_wp2
              go_roundg k1
              case measure => have := HK1.out; omega
              case rel => exact ⟨(x3_1), (wrap64 (x8_1 + 1)), (by first | rfl | (simp; done) | (simp [*]; done)), (by first | rfl | (simp; done) | (simp [*]; done)), H', ⟨by have := HK1.out; omega⟩, ⟨by (with_reducible repeat (first | apply Kd.R_alloc | apply Kd.R_drewN | apply Kd.R_drew)); exact HO_6.out⟩, ⟨by repeat (first | (with_reducible first | exact HB.out | apply below_alloc | apply pw_below_drewN | apply below_drew1) | exact HB.out)⟩⟩
          · rw [if_neg c7] at H
            exact absurd H (by simp)
        · rw [if_neg c6] at H
          exact absurd H (by simp)
      · rw [if_neg c5] at H
        have c5b0 : decide (x8_1 < (y174.length : Int)) = false := decide_eq_false c5
        clear c5
        by_cases c12 : x3_1.toList = ([] : List UInt8)
        · rw [if_pos c12] at H
          have c12b0 : (x3_1.toList == ([] : List UInt8)) = true := beq_iff_eq.mpr c12
          have c12b1 : (x3_1.toList != ([] : List UInt8)) = false := bne_eq_false_iff_eq.mpr c12
          clear c12
          obtain rfl := Option.some.inj H
          go_wp2
          go_ret
          exact ⟨by first | rfl | (simp [errW_none, errW_some] <;> rfl) | (simp [*, errW_none, errW_some] <;> rfl), by repeat (first | (with_reducible first | exact HB.out | apply below_alloc | apply pw_below_drewN | apply below_drew1) | exact HB.out)⟩
        · rw [if_neg c12] at H
          have c12b0 : (x3_1.toList == ([] : List UInt8)) = false := beq_eq_false_iff_ne.mpr c12
          have c12b1 : (x3_1.toList != ([] : List UInt8)) = true := bne_iff_ne.mpr c12
          obtain rfl := Option.some.inj H
          go_wp2
          go_ret
          exact ⟨by first | rfl | (simp [errW_none, errW_some] <;> rfl) | (simp [*, errW_none, errW_some] <;> rfl), by repeat (first | (with_reducible first | exact HB.out | apply below_alloc | apply pw_below_drewN | apply below_drew1) | exact HB.out)⟩

/-! ### towroperef34_Flags: function 30 -/
def towroperef34_Flags.l0 : Nat → ByteArray → Int → Int → Option (ByteArray)
  | 0, _, _, _ => none
  | k + 1, x3, x4, x5 => if x5 < 6 then (if (Int.tmod x4 2) = 1 then (if 0 ≤ x5 then (if x5 ≤ (wrap64 (x5 + 1)) then (if (wrap64 (x5 + 1)) ≤ 6 then (if x3.size + ((⟨#[70, 83, 82, 80, 65, 85]⟩ : ByteArray).extract (x5 : Int).toNat ((wrap64 (x5 + 1)) : Int).toNat).size ≤ 9223372036854775807 then (towroperef34_Flags.l0 k (x3 ++ ((⟨#[70, 83, 82, 80, 65, 85]⟩ : ByteArray).extract (x5 : Int).toNat ((wrap64 (x5 + 1)) : Int).toNat)) (wrap64 (Int.tdiv x4 2)) (wrap64 (x5 + 1))) else (none)) else (none)) else (none)) else (none)) else (towroperef34_Flags.l0 k x3 (wrap64 (Int.tdiv x4 2)) (wrap64 (x5 + 1)))) else (if x3.toList = ([] : List UInt8) then (some (⟨#[46]⟩ : ByteArray)) else (some x3))
def towroperef34_Flags.f (k : Nat) (a0 : Int) : Option (ByteArray) := towroperef34_Flags.l0 k (⟨#[]⟩ : ByteArray) (wrap64 (a0)) 0
theorem towroperef34_Flags.mono_l : ∀ k, (∀ y0 y1 y2, LeO (towroperef34_Flags.l0 k y0 y1 y2) (towroperef34_Flags.l0 (k + 1) y0 y1 y2))
  | 0 => fun _ _ _ r h => by simp [towroperef34_Flags.l0] at h
  | k + 1 => by
    have ih0 := towroperef34_Flags.mono_l k
    · intro y0 y1 y2
      unfold towroperef34_Flags.l0
      repeat' first
      | (with_reducible exact ih0 _ _ _)
      | (with_reducible exact LeO.refl _)
      | (with_reducible exact LeO.none _)
      | (with_reducible refine LeO.ite ?_ ?_)
      | (with_reducible refine LeO.bind ?_ (fun _ => ?_))
      | exact ih0 _ _ _
      | exact LeO.none _
      | refine LeO.ite ?_ ?_
      | refine LeO.bind ?_ (fun _ => ?_)
theorem towroperef34_Flags.mono : ∀ a0 k, LeO (towroperef34_Flags.f k a0) (towroperef34_Flags.f (k + 1) a0) := by
  intro a0 k
  have ih0 := towroperef34_Flags.mono_l k
  unfold towroperef34_Flags.f
  repeat' first
      | (with_reducible exact ih0 _ _ _)
      | (with_reducible exact LeO.refl _)
      | (with_reducible exact LeO.none _)
      | (with_reducible refine LeO.ite ?_ ?_)
      | (with_reducible refine LeO.bind ?_ (fun _ => ?_))
      | exact ih0 _ _ _
      | exact LeO.none _
      | refine LeO.ite ?_ ?_
      | refine LeO.bind ?_ (fun _ => ?_)
set_option maxHeartbeats 8000000 in
set_option maxRecDepth 100000 in
theorem towroperef34_Flags.calls (k : Nat) (a0 : Int) (r : ByteArray) (w : World) (h : towroperef34_Flags.f k a0 = some r) :
    Calls Tryd.prog 30 #[.int .u8 a0] w fun e w' => e = .returned (.string r) ∧ Drawn0 w w' := by
  have H : (towroperef34_Flags.l0 k (⟨#[]⟩ : ByteArray) (wrap64 (a0)) 0) = some r := h
  clear h
  have H' := Aside0.mk H
  clear H
  go_enter Tryd.func30, Tryd.ntmps30
  go_wp2
  go_loopg [3, 4, 5] k (fun kq v3 v4 v5 w' => ∃ (x3_1 : ByteArray) (x4_1 : Int) (x5_1 : Int), v3 = .string x3_1 ∧ v4 = .int .i64 x4_1 ∧ v5 = .int .i64 x5_1 ∧ Aside0 (towroperef34_Flags.l0 kq x3_1 x4_1 x5_1 = some r) ∧ Aside0 (kq ≤ k) ∧ Drawn0 w w')
  case atStart => exact ⟨((⟨#[]⟩ : ByteArray)), (wrap64 (a0)), (0), (by first | rfl | (simp; done) | (simp [*]; done)), (by first | rfl | (simp; done) | (simp [*]; done)), (by first | rfl | (simp; done) | (simp [*]; done)), H', ⟨Nat.le_refl _⟩, by repeat (first | exact Drawn0.refl _ | apply Drawn0.step)⟩
  case round =>
    clear H'
    obtain ⟨x3_1, x4_1, x5_1, rfl, rfl, rfl, HA, HK1, ⟨m1, rfl⟩⟩ := hrel
    cases gk with
    | zero => exact absurd HA.out (by simp [towroperef34_Flags.l0])
    | succ k1 =>
      have H := HA.out
      clear HA
      simp only [towroperef34_Flags.l0] at H
      by_cases c2 : x5_1 < 6
      · rw [if_pos c2] at H
        have c2b0 : decide (x5_1 < 6) = true := decide_eq_true c2
        clear c2
        by_cases c3 : (Int.tmod x4_1 2) = 1
        · rw [if_pos c3] at H
          have c3b0 : ((Int.tmod x4_1 2) == 1) = true := beq_iff_eq.mpr c3
          have c3b1 : ((Int.tmod x4_1 2) != 1) = false := bne_eq_false_iff_eq.mpr c3
          clear c3
          by_cases c4 : 0 ≤ x5_1
          · rw [if_pos c4] at H
            have c4b0 := eq_true c4
            have c4b1 : decide (0 ≤ x5_1) = true := decide_eq_true c4
            clear c4
            by_cases c5 : x5_1 ≤ (wrap64 (x5_1 + 1))
            · rw [if_pos c5] at H
              have c5b0 := eq_true c5
              have c5b1 : decide (x5_1 ≤ (wrap64 (x5_1 + 1))) = true := decide_eq_true c5
              by_cases c6 : (wrap64 (x5_1 + 1)) ≤ 6
              · rw [if_pos c6] at H
                have c6b0 := eq_true c6
                have c6b1 : decide ((wrap64 (x5_1 + 1)) ≤ 6) = true := decide_eq_true c6
                by_cases c7 : x3_1.size + ((⟨#[70, 83, 82, 80, 65, 85]⟩ : ByteArray).extract (x5_1 : Int).toNat ((wrap64 (x5_1 + 1)) : Int).toNat).size ≤ 9223372036854775807
                · rw [if_pos c7] at H
                  have c7b0 := eq_true c7
                  have c7b1 : decide (x3_1.size + ((⟨#[70, 83, 82, 80, 65, 85]⟩ : ByteArray).extract (x5_1 : Int).toNat ((wrap64 (x5_1 + 1)) : Int).toNat).size ≤ 9223372036854775807) = true := decide_eq_true c7
                  try have c7b2 : (9223372036854775807 < x3_1.size + ((⟨#[70, 83, 82, 80, 65, 85]⟩ : ByteArray).extract (x5_1 : Int).toNat ((wrap64 (x5_1 + 1)) : Int).toNat).size) = False := eq_false (Nat.not_lt.2 c7)
                  have H' := Aside0.mk H
                  clear H
                  go_wp2
                  go_roundg k1
                  case measure => have := HK1.out; omega
                  case rel => exact ⟨(x3_1 ++ ((⟨#[70, 83, 82, 80, 65, 85]⟩ : ByteArray).extract (x5_1 : Int).toNat ((wrap64 (x5_1 + 1)) : Int).toNat)), (wrap64 (Int.tdiv x4_1 2)), (wrap64 (x5_1 + 1)), (by first | rfl | (simp; done) | (simp [*]; done)), (by first | rfl | (simp; done) | (simp [*]; done)), (by first | rfl | (simp; done) | (simp [*]; done)), H', ⟨by have := HK1.out; omega⟩, by repeat (first | exact Drawn0.refl _ | apply Drawn0.step)⟩
                · rw [if_neg c7] at H
                  exact absurd H (by simp)
              · rw [if_neg c6] at H
                exact absurd H (by simp)
            · rw [if_neg c5] at H
              exact absurd H (by simp)
          · rw [if_neg c4] at H
            exact absurd H (by simp)
        · rw [if_neg c3] at H
          have c3b0 : ((Int.tmod x4_1 2) == 1) = false := beq_eq_false_iff_ne.mpr c3
          have c3b1 : ((Int.tmod x4_1 2) != 1) = true := bne_iff_ne.mpr c3
          have H' := Aside0.mk H
          clear H
          go_wp2
          go_roundg k1
          case measure => have := HK1.out; omega
          case rel => exact ⟨(x3_1), (wrap64 (Int.tdiv x4_1 2)), (wrap64 (x5_1 + 1)), (by first | rfl | (simp; done) | (simp [*]; done)), (by first | rfl | (simp; done) | (simp [*]; done)), (by first | rfl | (simp; done) | (simp [*]; done)), H', ⟨by have := HK1.out; omega⟩, by repeat (first | exact Drawn0.refl _ | apply Drawn0.step)⟩
      · rw [if_neg c2] at H
        have c2b0 : decide (x5_1 < 6) = false := decide_eq_false c2
        clear c2
        by_cases c8 : x3_1.toList = ([] : List UInt8)
        · rw [if_pos c8] at H
          have c8b0 : (x3_1.toList == ([] : List UInt8)) = true := beq_iff_eq.mpr c8
          have c8b1 : (x3_1.toList != ([] : List UInt8)) = false := bne_eq_false_iff_eq.mpr c8
          clear c8
          obtain rfl := Option.some.inj H
          go_wp2
          go_ret
          exact ⟨by first | rfl | (simp; done) | (simp [*]; done), by repeat (first | exact Drawn0.refl _ | apply Drawn0.step)⟩
        · rw [if_neg c8] at H
          have c8b0 : (x3_1.toList == ([] : List UInt8)) = false := beq_eq_false_iff_ne.mpr c8
          have c8b1 : (x3_1.toList != ([] : List UInt8)) = true := bne_iff_ne.mpr c8
          obtain rfl := Option.some.inj H
          go_wp2
          go_ret
          exact ⟨by first | rfl | (simp; done) | (simp [*]; done), by repeat (first | exact Drawn0.refl _ | apply Drawn0.step)⟩

end Go.Proofs.YtcebnaknodghcaaDoor.PTel
