-- Laid by a program of this session (wip/tools/mk.py) over the kit's print: functions, contracts, walks; not written by hand, not trusted: Lean checks it.
import Derived.Test.YtcebnaknodghcaaDoorPAdNx0
namespace Go.Proofs.YtcebnaknodghcaaDoor.PAdN
open Go.RowKit Go.Proofs.YtcebnaknodghcaaDoorW.PrintWords Go.Proofs.YtcebnaknodghcaaDoorW.PrintLast Go.Proofs.YtcebnaknodghcaaDoorW.PrintMore
attribute [local go_sem] max2_int min2_int max_two min_two max_three min_three max_four min_four   -- for this text's walks alone
set_option linter.unusedVariables false
set_option linter.unusedSimpArgs false

/-! ### towroperef04_Number: function 37 -/
def towroperef04_Number.f (_k : Nat) (a0 : Int) : Option (ByteArray) := if -9223372036854775808 ≤ a0 ∧ a0 ≤ 9223372036854775807 then some ⟨(Lib.itoa a0).toArray⟩ else none
theorem towroperef04_Number.mono_l : ∀ k, (∀ y0, LeO (towroperef04_Number.f k y0) (towroperef04_Number.f (k + 1) y0)) := fun _ _ => LeO.refl _
theorem towroperef04_Number.mono : ∀ a0 k, LeO (towroperef04_Number.f k a0) (towroperef04_Number.f (k + 1) a0) := fun _ _ => LeO.refl _
theorem towroperef04_Number.calls (k : Nat) (a0 : Int) (r : ByteArray) (w : World) (h : towroperef04_Number.f k a0 = some r) :
    Calls Tryd.prog 37 #[.int .i64 a0] w fun e w' => e = .returned (.string r) ∧ Below w.heap.size w w' := by
  unfold towroperef04_Number.f at h
  split at h
  · rename_i hb
    obtain rfl := Option.some.inj h
    exact Go.Proofs.YtcebnaknodghcaaDoor.HNumber.calls a0 hb.1 hb.2 w
  · cases h


/-! ### towroperef05_Text: function 19 -/
def towroperef05_Text.f (k : Nat) (a0 : Int) : Option (ByteArray) := (towroperef04_Number.f k (wrap64 (Int.tdiv (wrap64 (a0)) 16777216))).bind fun t103 => (if t103.size + 1 ≤ 9223372036854775807 then ((towroperef04_Number.f k (Int.tmod (wrap64 (Int.tdiv (wrap64 (a0)) 65536)) 256)).bind fun t104 => (if (t103 ++ (⟨#[46]⟩ : ByteArray)).size + t104.size ≤ 9223372036854775807 then (if ((t103 ++ (⟨#[46]⟩ : ByteArray)) ++ t104).size + 1 ≤ 9223372036854775807 then ((towroperef04_Number.f k (Int.tmod (wrap64 (Int.tdiv (wrap64 (a0)) 256)) 256)).bind fun t105 => (if (((t103 ++ (⟨#[46]⟩ : ByteArray)) ++ t104) ++ (⟨#[46]⟩ : ByteArray)).size + t105.size ≤ 9223372036854775807 then (if ((((t103 ++ (⟨#[46]⟩ : ByteArray)) ++ t104) ++ (⟨#[46]⟩ : ByteArray)) ++ t105).size + 1 ≤ 9223372036854775807 then ((towroperef04_Number.f k (Int.tmod (wrap64 (a0)) 256)).bind fun t106 => (if (((((t103 ++ (⟨#[46]⟩ : ByteArray)) ++ t104) ++ (⟨#[46]⟩ : ByteArray)) ++ t105) ++ (⟨#[46]⟩ : ByteArray)).size + t106.size ≤ 9223372036854775807 then (some ((((((t103 ++ (⟨#[46]⟩ : ByteArray)) ++ t104) ++ (⟨#[46]⟩ : ByteArray)) ++ t105) ++ (⟨#[46]⟩ : ByteArray)) ++ t106)) else (none))) else (none)) else (none))) else (none)) else (none))) else (none))
theorem towroperef05_Text.mono : ∀ a0 k, LeO (towroperef05_Text.f k a0) (towroperef05_Text.f (k + 1) a0) := by
  intro a0 k
  unfold towroperef05_Text.f
  repeat' first
      | (with_reducible exact towroperef04_Number.mono _ _)
      | (with_reducible exact LeO.refl _)
      | (with_reducible exact LeO.none _)
      | (with_reducible refine LeO.ite ?_ ?_)
      | (with_reducible refine LeO.bind ?_ (fun _ => ?_))
      | exact towroperef04_Number.mono _ _
      | exact LeO.none _
      | refine LeO.ite ?_ ?_
      | refine LeO.bind ?_ (fun _ => ?_)
set_option maxHeartbeats 8000000 in
set_option maxRecDepth 100000 in
theorem towroperef05_Text.calls (k : Nat) (a0 : Int) (r : ByteArray) (w : World) (h : towroperef05_Text.f k a0 = some r) :
    Calls Tryd.prog 19 #[.int .u32 a0] w fun e w' => e = .returned (.string r) ∧ Below w.heap.size w w' := by
  have HB := Aside0.mk (Below.refl w.heap.size w)
  have H : ((towroperef04_Number.f k (wrap64 (Int.tdiv (wrap64 (a0)) 16777216))).bind fun t103 => (if t103.size + 1 ≤ 9223372036854775807 then ((towroperef04_Number.f k (Int.tmod (wrap64 (Int.tdiv (wrap64 (a0)) 65536)) 256)).bind fun t104 => (if (t103 ++ (⟨#[46]⟩ : ByteArray)).size + t104.size ≤ 9223372036854775807 then (if ((t103 ++ (⟨#[46]⟩ : ByteArray)) ++ t104).size + 1 ≤ 9223372036854775807 then ((towroperef04_Number.f k (Int.tmod (wrap64 (Int.tdiv (wrap64 (a0)) 256)) 256)).bind fun t105 => (if (((t103 ++ (⟨#[46]⟩ : ByteArray)) ++ t104) ++ (⟨#[46]⟩ : ByteArray)).size + t105.size ≤ 9223372036854775807 then (if ((((t103 ++ (⟨#[46]⟩ : ByteArray)) ++ t104) ++ (⟨#[46]⟩ : ByteArray)) ++ t105).size + 1 ≤ 9223372036854775807 then ((towroperef04_Number.f k (Int.tmod (wrap64 (a0)) 256)).bind fun t106 => (if (((((t103 ++ (⟨#[46]⟩ : ByteArray)) ++ t104) ++ (⟨#[46]⟩ : ByteArray)) ++ t105) ++ (⟨#[46]⟩ : ByteArray)).size + t106.size ≤ 9223372036854775807 then (some ((((((t103 ++ (⟨#[46]⟩ : ByteArray)) ++ t104) ++ (⟨#[46]⟩ : ByteArray)) ++ t105) ++ (⟨#[46]⟩ : ByteArray)) ++ t106)) else (none))) else (none)) else (none))) else (none)) else (none))) else (none))) = some r := h
  clear h
  replace H := Option.bind_eq_some_iff.mp H
  obtain ⟨t103, A20, H⟩ := H
  replace H : (if t103.size + 1 ≤ 9223372036854775807 then ((towroperef04_Number.f k (Int.tmod (wrap64 (Int.tdiv (wrap64 (a0)) 65536)) 256)).bind fun t104 => (if (t103 ++ (⟨#[46]⟩ : ByteArray)).size + t104.size ≤ 9223372036854775807 then (if ((t103 ++ (⟨#[46]⟩ : ByteArray)) ++ t104).size + 1 ≤ 9223372036854775807 then ((towroperef04_Number.f k (Int.tmod (wrap64 (Int.tdiv (wrap64 (a0)) 256)) 256)).bind fun t105 => (if (((t103 ++ (⟨#[46]⟩ : ByteArray)) ++ t104) ++ (⟨#[46]⟩ : ByteArray)).size + t105.size ≤ 9223372036854775807 then (if ((((t103 ++ (⟨#[46]⟩ : ByteArray)) ++ t104) ++ (⟨#[46]⟩ : ByteArray)) ++ t105).size + 1 ≤ 9223372036854775807 then ((towroperef04_Number.f k (Int.tmod (wrap64 (a0)) 256)).bind fun t106 => (if (((((t103 ++ (⟨#[46]⟩ : ByteArray)) ++ t104) ++ (⟨#[46]⟩ : ByteArray)) ++ t105) ++ (⟨#[46]⟩ : ByteArray)).size + t106.size ≤ 9223372036854775807 then (some ((((((t103 ++ (⟨#[46]⟩ : ByteArray)) ++ t104) ++ (⟨#[46]⟩ : ByteArray)) ++ t105) ++ (⟨#[46]⟩ : ByteArray)) ++ t106)) else (none))) else (none)) else (none))) else (none)) else (none))) else (none)) = some r := H
  have A2 := Aside0.mk A20
  clear A20
  by_cases c3 : t103.size + 1 ≤ 9223372036854775807
  · rw [if_pos c3] at H
    have c3b0 := eq_true c3
    have c3b1 : decide (t103.size + 1 ≤ 9223372036854775807) = true := decide_eq_true c3
    try have c3b2 : (9223372036854775807 < t103.size + 1) = False := eq_false (Nat.not_lt.2 c3)
    replace H := Option.bind_eq_some_iff.mp H
    obtain ⟨t104, A40, H⟩ := H
    replace H : (if (t103 ++ (⟨#[46]⟩ : ByteArray)).size + t104.size ≤ 9223372036854775807 then (if ((t103 ++ (⟨#[46]⟩ : ByteArray)) ++ t104).size + 1 ≤ 9223372036854775807 then ((towroperef04_Number.f k (Int.tmod (wrap64 (Int.tdiv (wrap64 (a0)) 256)) 256)).bind fun t105 => (if (((t103 ++ (⟨#[46]⟩ : ByteArray)) ++ t104) ++ (⟨#[46]⟩ : ByteArray)).size + t105.size ≤ 9223372036854775807 then (if ((((t103 ++ (⟨#[46]⟩ : ByteArray)) ++ t104) ++ (⟨#[46]⟩ : ByteArray)) ++ t105).size + 1 ≤ 9223372036854775807 then ((towroperef04_Number.f k (Int.tmod (wrap64 (a0)) 256)).bind fun t106 => (if (((((t103 ++ (⟨#[46]⟩ : ByteArray)) ++ t104) ++ (⟨#[46]⟩ : ByteArray)) ++ t105) ++ (⟨#[46]⟩ : ByteArray)).size + t106.size ≤ 9223372036854775807 then (some ((((((t103 ++ (⟨#[46]⟩ : ByteArray)) ++ t104) ++ (⟨#[46]⟩ : ByteArray)) ++ t105) ++ (⟨#[46]⟩ : ByteArray)) ++ t106)) else (none))) else (none)) else (none))) else (none)) else (none)) = some r := H
    have A4 := Aside0.mk A40
    clear A40
    by_cases c5 : (t103 ++ (⟨#[46]⟩ : ByteArray)).size + t104.size ≤ 9223372036854775807
    · rw [if_pos c5] at H
      have c5b0 := eq_true c5
      have c5b1 : decide ((t103 ++ (⟨#[46]⟩ : ByteArray)).size + t104.size ≤ 9223372036854775807) = true := decide_eq_true c5
      try have c5b2 : (9223372036854775807 < (t103 ++ (⟨#[46]⟩ : ByteArray)).size + t104.size) = False := eq_false (Nat.not_lt.2 c5)
      try have c5b2z : (9223372036854775807 < t103.size + 1 + t104.size) = False := eq_false (Nat.not_lt.2 (by have q_ := c5; (try simp only [ByteArray.size_append] at q_); exact q_))
      by_cases c6 : ((t103 ++ (⟨#[46]⟩ : ByteArray)) ++ t104).size + 1 ≤ 9223372036854775807
      · rw [if_pos c6] at H
        have c6b0 := eq_true c6
        have c6b1 : decide (((t103 ++ (⟨#[46]⟩ : ByteArray)) ++ t104).size + 1 ≤ 9223372036854775807) = true := decide_eq_true c6
        try have c6b2 : (9223372036854775807 < ((t103 ++ (⟨#[46]⟩ : ByteArray)) ++ t104).size + 1) = False := eq_false (Nat.not_lt.2 c6)
        try have c6b2z : (9223372036854775807 < t103.size + 1 + t104.size + 1) = False := eq_false (Nat.not_lt.2 (by have q_ := c6; (try simp only [ByteArray.size_append] at q_); exact q_))
        replace H := Option.bind_eq_some_iff.mp H
        obtain ⟨t105, A70, H⟩ := H
        replace H : (if (((t103 ++ (⟨#[46]⟩ : ByteArray)) ++ t104) ++ (⟨#[46]⟩ : ByteArray)).size + t105.size ≤ 9223372036854775807 then (if ((((t103 ++ (⟨#[46]⟩ : ByteArray)) ++ t104) ++ (⟨#[46]⟩ : ByteArray)) ++ t105).size + 1 ≤ 9223372036854775807 then ((towroperef04_Number.f k (Int.tmod (wrap64 (a0)) 256)).bind fun t106 => (if (((((t103 ++ (⟨#[46]⟩ : ByteArray)) ++ t104) ++ (⟨#[46]⟩ : ByteArray)) ++ t105) ++ (⟨#[46]⟩ : ByteArray)).size + t106.size ≤ 9223372036854775807 then (some ((((((t103 ++ (⟨#[46]⟩ : ByteArray)) ++ t104) ++ (⟨#[46]⟩ : ByteArray)) ++ t105) ++ (⟨#[46]⟩ : ByteArray)) ++ t106)) else (none))) else (none)) else (none)) = some r := H
        have A7 := Aside0.mk A70
        clear A70
        by_cases c8 : (((t103 ++ (⟨#[46]⟩ : ByteArray)) ++ t104) ++ (⟨#[46]⟩ : ByteArray)).size + t105.size ≤ 9223372036854775807
        · rw [if_pos c8] at H
          have c8b0 := eq_true c8
          have c8b1 : decide ((((t103 ++ (⟨#[46]⟩ : ByteArray)) ++ t104) ++ (⟨#[46]⟩ : ByteArray)).size + t105.size ≤ 9223372036854775807) = true := decide_eq_true c8
          try have c8b2 : (9223372036854775807 < (((t103 ++ (⟨#[46]⟩ : ByteArray)) ++ t104) ++ (⟨#[46]⟩ : ByteArray)).size + t105.size) = False := eq_false (Nat.not_lt.2 c8)
          try have c8b2z : (9223372036854775807 < t103.size + 1 + t104.size + 1 + t105.size) = False := eq_false (Nat.not_lt.2 (by have q_ := c8; (try simp only [ByteArray.size_append] at q_); exact q_))
          by_cases c9 : ((((t103 ++ (⟨#[46]⟩ : ByteArray)) ++ t104) ++ (⟨#[46]⟩ : ByteArray)) ++ t105).size + 1 ≤ 9223372036854775807
          · rw [if_pos c9] at H
            have c9b0 := eq_true c9
            have c9b1 : decide (((((t103 ++ (⟨#[46]⟩ : ByteArray)) ++ t104) ++ (⟨#[46]⟩ : ByteArray)) ++ t105).size + 1 ≤ 9223372036854775807) = true := decide_eq_true c9
            try have c9b2 : (9223372036854775807 < ((((t103 ++ (⟨#[46]⟩ : ByteArray)) ++ t104) ++ (⟨#[46]⟩ : ByteArray)) ++ t105).size + 1) = False := eq_false (Nat.not_lt.2 c9)
            try have c9b2z : (9223372036854775807 < t103.size + 1 + t104.size + 1 + t105.size + 1) = False := eq_false (Nat.not_lt.2 (by have q_ := c9; (try simp only [ByteArray.size_append] at q_); exact q_))
            replace H := Option.bind_eq_some_iff.mp H
            obtain ⟨t106, A100, H⟩ := H
            replace H : (if (((((t103 ++ (⟨#[46]⟩ : ByteArray)) ++ t104) ++ (⟨#[46]⟩ : ByteArray)) ++ t105) ++ (⟨#[46]⟩ : ByteArray)).size + t106.size ≤ 9223372036854775807 then (some ((((((t103 ++ (⟨#[46]⟩ : ByteArray)) ++ t104) ++ (⟨#[46]⟩ : ByteArray)) ++ t105) ++ (⟨#[46]⟩ : ByteArray)) ++ t106)) else (none)) = some r := H
            have A10 := Aside0.mk A100
            clear A100
            by_cases c11 : (((((t103 ++ (⟨#[46]⟩ : ByteArray)) ++ t104) ++ (⟨#[46]⟩ : ByteArray)) ++ t105) ++ (⟨#[46]⟩ : ByteArray)).size + t106.size ≤ 9223372036854775807
            · rw [if_pos c11] at H
              have c11b0 := eq_true c11
              have c11b1 : decide ((((((t103 ++ (⟨#[46]⟩ : ByteArray)) ++ t104) ++ (⟨#[46]⟩ : ByteArray)) ++ t105) ++ (⟨#[46]⟩ : ByteArray)).size + t106.size ≤ 9223372036854775807) = true := decide_eq_true c11
              try have c11b2 : (9223372036854775807 < (((((t103 ++ (⟨#[46]⟩ : ByteArray)) ++ t104) ++ (⟨#[46]⟩ : ByteArray)) ++ t105) ++ (⟨#[46]⟩ : ByteArray)).size + t106.size) = False := eq_false (Nat.not_lt.2 c11)
              try have c11b2z : (9223372036854775807 < t103.size + 1 + t104.size + 1 + t105.size + 1 + t106.size) = False := eq_false (Nat.not_lt.2 (by have q_ := c11; (try simp only [ByteArray.size_append] at q_); exact q_))
              obtain rfl := Option.some.inj H
              go_enter Tryd.func19, Tryd.ntmps19
              go_wp2_with (first | ((with_reducible refine gate_callee (f := 37) rfl ?_); refine goesL_ (some 8) rfl rfl Tryd.func37 (by kernel_rfl) rfl #[.int .i64 (wrap64 (Int.tdiv (wrap64 (a0)) 16777216))] rfl (by (try simp only [List.map_toArray, List.map_cons, List.map_nil]); first | done | rfl | (simp only [List.length_drop, List.length_take]; rfl) | (go_simp; done) | (go_simp; omega)) ?_; (with_reducible refine (towroperef04_Number.calls k (wrap64 (Int.tdiv (wrap64 (a0)) 16777216)) t103 _ A2.out).mono ?_); rintro e w12 ⟨rfl, hb⟩; refine ⟨_, rfl, ?_⟩; have n0_ := Aside0.mk (below_step (by repeat (first | (with_reducible first | exact HB.out | apply below_alloc | apply pw_below_drewN | apply below_drew1) | exact HB.out)) hb); clear HB; have HB := n0_; clear n0_; (try clear hb); (try clear hb2); (try clear hk); (try clear hi)) | ((with_reducible refine gate_callee (f := 37) rfl ?_); refine goesL_ (some 13) rfl rfl Tryd.func37 (by kernel_rfl) rfl #[.int .i64 (Int.tmod (wrap64 (Int.tdiv (wrap64 (a0)) 65536)) 256)] rfl (by (try simp only [List.map_toArray, List.map_cons, List.map_nil]); first | done | rfl | (simp only [List.length_drop, List.length_take]; rfl) | (go_simp; done) | (go_simp; omega)) ?_; (with_reducible refine (towroperef04_Number.calls k (Int.tmod (wrap64 (Int.tdiv (wrap64 (a0)) 65536)) 256) t104 _ A4.out).mono ?_); rintro e w13 ⟨rfl, hb⟩; refine ⟨_, rfl, ?_⟩; have n0_ := Aside0.mk (below_step (by repeat (first | (with_reducible first | exact HB.out | apply below_alloc | apply pw_below_drewN | apply below_drew1) | exact HB.out)) hb); clear HB; have HB := n0_; clear n0_; (try clear hb); (try clear hb2); (try clear hk); (try clear hi)) | ((with_reducible refine gate_callee (f := 37) rfl ?_); refine goesL_ (some 19) rfl rfl Tryd.func37 (by kernel_rfl) rfl #[.int .i64 (Int.tmod (wrap64 (Int.tdiv (wrap64 (a0)) 256)) 256)] rfl (by (try simp only [List.map_toArray, List.map_cons, List.map_nil]); first | done | rfl | (simp only [List.length_drop, List.length_take]; rfl) | (go_simp; done) | (go_simp; omega)) ?_; (with_reducible refine (towroperef04_Number.calls k (Int.tmod (wrap64 (Int.tdiv (wrap64 (a0)) 256)) 256) t105 _ A7.out).mono ?_); rintro e w14 ⟨rfl, hb⟩; refine ⟨_, rfl, ?_⟩; have n0_ := Aside0.mk (below_step (by repeat (first | (with_reducible first | exact HB.out | apply below_alloc | apply pw_below_drewN | apply below_drew1) | exact HB.out)) hb); clear HB; have HB := n0_; clear n0_; (try clear hb); (try clear hb2); (try clear hk); (try clear hi)) | ((with_reducible refine gate_callee (f := 37) rfl ?_); refine goesL_ (some 24) rfl rfl Tryd.func37 (by kernel_rfl) rfl #[.int .i64 (Int.tmod (wrap64 (a0)) 256)] rfl (by (try simp only [List.map_toArray, List.map_cons, List.map_nil]); first | done | rfl | (simp only [List.length_drop, List.length_take]; rfl) | (go_simp; done) | (go_simp; omega)) ?_; (with_reducible refine (towroperef04_Number.calls k (Int.tmod (wrap64 (a0)) 256) t106 _ A10.out).mono ?_); rintro e w15 ⟨rfl, hb⟩; refine ⟨_, rfl, ?_⟩; have n0_ := Aside0.mk (below_step (by repeat (first | (with_reducible first | exact HB.out | apply below_alloc | apply pw_below_drewN | apply below_drew1) | exact HB.out)) hb); clear HB; have HB := n0_; clear n0_; (try clear hb); (try clear hb2); (try clear hk); (try clear hi)))
              go_ret
              exact ⟨by first | rfl | (simp [errW_none, errW_some] <;> rfl) | (simp [*, errW_none, errW_some] <;> rfl), by repeat (first | (with_reducible first | exact HB.out | apply below_alloc | apply pw_below_drewN | apply below_drew1) | exact HB.out)⟩
            · rw [if_neg c11] at H
              exact absurd H (by simp)
          · rw [if_neg c9] at H
            exact absurd H (by simp)
        · rw [if_neg c8] at H
          exact absurd H (by simp)
      · rw [if_neg c6] at H
        exact absurd H (by simp)
    · rw [if_neg c5] at H
      exact absurd H (by simp)
  · rw [if_neg c3] at H
    exact absurd H (by simp)

/-! ### towropelaw05_code: function 20 -/
def towropelaw05_code.f (a0 : Int) : Option (Int) := some a0
set_option maxHeartbeats 8000000 in
set_option maxRecDepth 100000 in
theorem towropelaw05_code.calls (a0 : Int) (r : Int) (w : World) (h : towropelaw05_code.f a0 = some r) :
    Calls Tryd.prog 20 #[.int .i64 a0] w fun e w' => e = .returned (.int .i64 r) ∧ Drawn0 w w' := by
  have H : (some a0) = some r := h
  clear h
  obtain rfl := Option.some.inj H
  go_enter Tryd.func20, Tryd.ntmps20
  go_wp2
  go_ret
  exact ⟨by first | rfl | (simp; done) | (simp [*]; done), by repeat (first | exact Drawn0.refl _ | apply Drawn0.step)⟩

/-! ### strconv_Itoa_62: function 62 -/
def strconv_Itoa_62.f (a0 : Int) : Option (ByteArray) := if -9223372036854775808 ≤ a0 ∧ a0 ≤ 9223372036854775807 then some ⟨(Lib.itoa a0).toArray⟩ else none
set_option maxHeartbeats 8000000 in
set_option maxRecDepth 100000 in
theorem strconv_Itoa_62.calls (a0 : Int) (r : ByteArray) (w : World) (ht : Go.Proofs.YtcebnaknodghcaaDoor.HItoa.Tab w) (h : strconv_Itoa_62.f a0 = some r) :
    Calls Tryd.prog 62 #[.int .i64 a0] w fun e w' => e = .returned (.string r) ∧ Below w.heap.size w w' := by
  unfold strconv_Itoa_62.f at h
  split at h
  · rename_i hb
    obtain rfl := Option.some.inj h
    exact Go.Proofs.YtcebnaknodghcaaDoor.HItoa.itoa_calls a0 hb.1 hb.2 w ht
  · cases h


/-! ### strings_Join: function 63 -/
def strings_Join.f (l0 : List ByteArray) (a1 : ByteArray) : Option (ByteArray) := if l0.length ≤ 140737488355328 ∧ (Lib.join (l0.map (·.data.toList)) a1.data.toList).length ≤ 140737488355328 then some ⟨(Lib.join (l0.map (·.data.toList)) a1.data.toList).toArray⟩ else none
set_option maxHeartbeats 8000000 in
set_option maxRecDepth 100000 in
theorem strings_Join.calls (A0 : Option Addr) (c0 : Nat) (l0 : List ByteArray) (a1 : ByteArray) (r : ByteArray) (w : World) (hr0 : Kd.C Kd.string w A0 l0.length l0) (hc0 : l0.length ≤ c0) (h : strings_Join.f l0 a1 = some r) :
    Calls Tryd.prog 63 #[.slice A0 l0.length c0, .string a1] w fun e w' => e = .returned (.string r) ∧ Below w.heap.size w w' := by
  unfold strings_Join.f at h
  split at h
  · rename_i hb
    obtain rfl := Option.some.inj h
    exact Go.Proofs.YtcebnaknodghcaaDoor.HItoa.join_calls A0 c0 l0 a1 w hr0 hc0 hb.1 hb.2
  · cases h


/-! ### addr_Text: function 17 -/
def addr_Text.l0 : Nat → Int → List ByteArray → Int → Option (ByteArray)
  | 0, _, _, _ => none
  | k + 1, x0, x3, x5 => if x5 < 4 then (if 0 ≤ (wrap64 (24 - (wrap64 (8 * x5)))) then ((strconv_Itoa_62.f ((shr .u32 x0 (wrap64 (24 - (wrap64 (8 * x5))))) % 256)).bind fun t113 => (if x3.length < 8796093022208 then (addr_Text.l0 k x0 (x3 ++ [t113]) (wrap64 (x5 + 1))) else (none))) else (none)) else ((strings_Join.f x3 (⟨#[46]⟩ : ByteArray)).bind fun t117 => (some t117))
def addr_Text.f (k : Nat) (a0 : Int) : Option (ByteArray) := addr_Text.l0 k a0 ([] : List ByteArray) 0
theorem addr_Text.mono_l : ∀ k, (∀ y0 y1 y2, LeO (addr_Text.l0 k y0 y1 y2) (addr_Text.l0 (k + 1) y0 y1 y2))
  | 0 => fun _ _ _ r h => by simp [addr_Text.l0] at h
  | k + 1 => by
    have ih0 := addr_Text.mono_l k
    · intro y0 y1 y2
      unfold addr_Text.l0
      repeat' first
      | (with_reducible exact ih0 _ _ _)
      | (with_reducible exact LeO.refl _)
      | (with_reducible exact LeO.none _)
      | (with_reducible refine LeO.ite ?_ ?_)
      | (with_reducible refine LeO.bind ?_ (fun _ => ?_))
      | exact ih0 _ _ _
      | exact LeO.none _
      | refine LeO.ite ?_ ?_
      | refine LeO.bind ?_ (fun _ => ?_)
theorem addr_Text.mono : ∀ a0 k, LeO (addr_Text.f k a0) (addr_Text.f (k + 1) a0) := by
  intro a0 k
  have ih0 := addr_Text.mono_l k
  unfold addr_Text.f
  repeat' first
      | (with_reducible exact ih0 _ _ _)
      | (with_reducible exact LeO.refl _)
      | (with_reducible exact LeO.none _)
      | (with_reducible refine LeO.ite ?_ ?_)
      | (with_reducible refine LeO.bind ?_ (fun _ => ?_))
      | exact ih0 _ _ _
      | exact LeO.none _
      | refine LeO.ite ?_ ?_
      | refine LeO.bind ?_ (fun _ => ?_)
set_option maxHeartbeats 8000000 in
set_option maxRecDepth 100000 in
theorem addr_Text.calls (k : Nat) (a0 : Int) (r : ByteArray) (w : World) (ht : Go.Proofs.YtcebnaknodghcaaDoor.HItoa.Tab w) (h : addr_Text.f k a0 = some r) :
    Calls Tryd.prog 17 #[.int .u32 a0] w fun e w' => e = .returned (.string r) ∧ Below w.heap.size w w' := by
  have HT := Aside0.mk ht
  clear ht
  have HB := Aside0.mk (Below.refl w.heap.size w)
  have H : (addr_Text.l0 k a0 ([] : List ByteArray) 0) = some r := h
  clear h
  have H' := Aside0.mk H
  clear H
  go_enter Tryd.func17, Tryd.ntmps17
  go_wp2
  go_loopg [3, 5] k (fun kq v3 v5 w' => ∃ (x3_1 : List ByteArray) (x5_1 : Int), v5 = .int .i64 x5_1 ∧ Aside0 (addr_Text.l0 kq a0 x3_1 x5_1 = some r) ∧ Aside0 (kq ≤ k) ∧ Aside0 (Kd.R Kd.string 9 w' w.heap.size (fun _ => True) v3 x3_1) ∧ Aside0 (Below w.heap.size w w'))
  case atStart => exact ⟨(([] : List ByteArray)), (0), (by first | rfl | (simp; done) | (simp [*]; done)), H', ⟨Nat.le_refl _⟩, ⟨by first | exact Kd.R_nil _ _ _ _ _ | exact Kd.N_nil _ _ _ _ _ | exact Kd.V_nil _ _ _ _ _ | exact Kd.Q_nil _ _ _ _ _ | exact Kd.S_nil _ _ _ _ _⟩, ⟨by repeat (first | (with_reducible first | exact HB.out | apply below_alloc | apply pw_below_drewN | apply below_drew1) | exact HB.out)⟩⟩
  case round =>
    clear H'
    try clear c1
    obtain ⟨x3_1, x5_1, rfl, HA, HK1, HO_3, HB⟩ := hrel
    cases gk with
    | zero => exact absurd HA.out (by simp [addr_Text.l0])
    | succ k1 =>
      have H := HA.out
      clear HA
      simp only [addr_Text.l0] at H
      by_cases c2 : x5_1 < 4
      · rw [if_pos c2] at H
        have c2b0 : decide (x5_1 < 4) = true := decide_eq_true c2
        clear c2
        obtain ⟨ji3, hji3⟩ : ∃ j_ : Int, (wrap64 (24 - (wrap64 (8 * x5_1)))) = j_ := ⟨_, rfl⟩
        replace H : (if 0 ≤ (ji3) then ((strconv_Itoa_62.f ((shr .u32 a0 (ji3)) % 256)).bind fun t113 => (if x3_1.length < 8796093022208 then (addr_Text.l0 k1 a0 (x3_1 ++ [t113]) (wrap64 (x5_1 + 1))) else (none))) else (none)) = some r := by first | (rw [hji3] at H; exact H) | (simp only [hji3] at H ⊢; exact H)
        have hji3w : (IntKind.i64.wrap (24 - (wrap64 (8 * x5_1)))) = ji3 := (i64_w _).trans hji3
        by_cases c4 : 0 ≤ (ji3)
        · rw [if_pos c4] at H
          have c4b0 := eq_true c4
          have c4b1 : decide (0 ≤ (ji3)) = true := decide_eq_true c4
          clear c4
          obtain ⟨ji5, hji5⟩ : ∃ j_ : Int, (shr .u32 a0 (ji3)) = j_ := ⟨_, rfl⟩
          replace H : ((strconv_Itoa_62.f ((ji5) % 256)).bind fun t113 => (if x3_1.length < 8796093022208 then (addr_Text.l0 k1 a0 (x3_1 ++ [t113]) (wrap64 (x5_1 + 1))) else (none))) = some r := by first | (rw [hji5] at H; exact H) | (simp only [hji5] at H ⊢; exact H)
          have hji5_ : (a0 / 2 ^ min (ji3).toNat 32) = ji5 := hji5
          have hji5z : (ji3) ≤ 32 → (a0 / 2 ^ (ji3).toNat) = ji5 := shr_small hji5
          replace H := Option.bind_eq_some_iff.mp H
          obtain ⟨t113, A60, H⟩ := H
          replace H : (if x3_1.length < 8796093022208 then (addr_Text.l0 k1 a0 (x3_1 ++ [t113]) (wrap64 (x5_1 + 1))) else (none)) = some r := H
          have A6 := Aside0.mk A60
          clear A60
          by_cases c7 : x3_1.length < 8796093022208
          · rw [if_pos c7] at H
            have LMc7 := Aside0.mk c7
            clear c7
            obtain ⟨y114, hy114⟩ : ∃ y_ : List ByteArray, y_ = (x3_1 ++ [t113]) := ⟨_, rfl⟩
            replace H : (addr_Text.l0 k1 a0 y114 (wrap64 (x5_1 + 1))) = some r := by first | (rw [hy114]; with_reducible exact H) | (have H2_ := (Option.bind_some _ _).symm.trans H; rw [hy114]; with_reducible exact H2_) | (have H2_ := (Option.bind_some _ _).symm.trans H; with_reducible exact H2_) | with_reducible exact H | (rw [hy114]; exact H) | exact H
            have Ny114 := Aside0.mk hy114
            clear hy114
            have H' := Aside0.mk H
            clear H
            go_wp2_with (first | ((with_reducible refine gate_callee (f := 62) rfl ?_); refine goesL_ (some 16) rfl rfl Tryd.func62 (by kernel_rfl) rfl #[.int .i64 ((ji5) % 256)] rfl (by (try simp only [List.map_toArray, List.map_cons, List.map_nil]); first | done | (simp only [hji5]; rfl) | rfl | (simp only [List.length_drop, List.length_take]; rfl)) ?_; (with_reducible refine (strconv_Itoa_62.calls ((ji5) % 256) t113 _ A6.out (ht := (by first | exact HT.out | exact Go.Proofs.YtcebnaknodghcaaDoor.HItoa.Tab.below HT.out (by repeat (first | (with_reducible first | exact HB.out | apply below_alloc | apply pw_below_drewN | apply below_drew1) | exact HB.out))))).mono ?_); rintro e w8 ⟨rfl, hb⟩; refine ⟨_, rfl, ?_⟩; have n0_ := Aside0.mk (Kd.R_below (by (with_reducible repeat (first | apply Kd.R_alloc | apply Kd.R_drewN | apply Kd.R_drew)); exact HO_3.out) hb); have n1_ := Aside0.mk (below_step (by repeat (first | (with_reducible first | exact HB.out | apply below_alloc | apply pw_below_drewN | apply below_drew1) | exact HB.out)) hb); clear HO_3; clear HB; have HO_3 := n0_; have HB := n1_; clear n0_ n1_; (try clear hb); (try clear hb2); (try clear hk); (try clear hi)) | ((with_reducible refine gate_builtin (b := .append) (xs := #[.tmp 8, .tmp 17]) rfl ?_); at_builtin; refine Kd.R_append Kd.string (w0 := w) w.heap.size rfl (.tmp 8) (.tmp 17) 85 9 (.string ⟨#[]⟩) 16 rfl Tryd.underlying85 info9 rfl (by decide) (by omega) u3 x3_1 t113 [.string t113] (fun _ => True) (fun _ => False) rfl rfl ?aP (fun _ hk => hk.elim) ?aF ?aO ?aB ?aS ?aL ?_; (case aP => exact rfl); (case aB => exact (by repeat (first | (with_reducible first | exact HB.out | apply below_alloc | apply pw_below_drewN | apply below_drew1) | exact HB.out))); (case aF => exact (fun _ _ => trivial)); (case aO => exact (by (with_reducible repeat (first | apply Kd.R_alloc | apply Kd.R_drewN | apply Kd.R_drew)); exact HO_3.out)); (case aS => exact (below_size (by repeat (first | (with_reducible first | exact HB.out | apply below_alloc | apply pw_below_drewN | apply below_drew1) | exact HB.out)))); (case aL => have := LMc7.out; omega); intro v115 w9 ho hb hg hat; rw [← Ny114.out] at ho; have n0_ := Aside0.mk (hb); have n1_ := Aside0.mk (ho); clear HB; clear HO_3; have HB := n0_; have HO116 := n1_; clear n0_ n1_; clear ho hb hg hat))
            go_roundg k1
            case measure => have := HK1.out; omega
            case rel => exact ⟨(y114), (wrap64 (x5_1 + 1)), (by first | rfl | (simp; done) | (simp [*]; done)), H', ⟨by have := HK1.out; omega⟩, ⟨by (with_reducible repeat (first | apply Kd.R_alloc | apply Kd.R_drewN | apply Kd.R_drew)); exact HO116.out⟩, ⟨by repeat (first | (with_reducible first | exact HB.out | apply below_alloc | apply pw_below_drewN | apply below_drew1) | exact HB.out)⟩⟩
          · rw [if_neg c7] at H
            exact absurd H (by simp)
        · rw [if_neg c4] at H
          exact absurd H (by simp)
      · rw [if_neg c2] at H
        have c2b0 : decide (x5_1 < 4) = false := decide_eq_false c2
        clear c2
        replace H := Option.bind_eq_some_iff.mp H
        obtain ⟨t117, A100, H⟩ := H
        replace H : (some t117) = some r := H
        have A10 := Aside0.mk A100
        clear A100
        obtain rfl := Option.some.inj H
        obtain ⟨Ao11, co11, eo11⟩ := Kd.R_slice HO_3.out
        subst eo11
        go_wp2_with (first | ((with_reducible refine gate_callee (f := 63) rfl ?_); refine goesL_ (some 21) rfl rfl Tryd.func63 (by kernel_rfl) rfl #[.slice Ao11 x3_1.length co11, .string (⟨#[46]⟩ : ByteArray)] rfl (by (try simp only [List.map_toArray, List.map_cons, List.map_nil]); first | done | rfl | (simp only [List.length_drop, List.length_take]; rfl) | (go_simp; done) | (go_simp; omega)) ?_; (with_reducible refine (strings_Join.calls _ _ x3_1 (⟨#[46]⟩ : ByteArray) t117 _ ?side1 ?side2 A10.out).mono ?_); (case side1 => repeat (first | exact (Kd.R_reads' HO_3.out).2.2 | (with_reducible refine Kd.C_alloc ?_ _) | (with_reducible refine Kd.C_drewN ?_ _) | (with_reducible refine Kd.C_drew ?_))); (case side2 => exact (Kd.R_reads' HO_3.out).2.1); rintro e w12 ⟨rfl, hb⟩; refine ⟨_, rfl, ?_⟩; have n0_ := Aside0.mk (Kd.R_below (by (with_reducible repeat (first | apply Kd.R_alloc | apply Kd.R_drewN | apply Kd.R_drew)); exact HO_3.out) hb); have n1_ := Aside0.mk (below_step (by repeat (first | (with_reducible first | exact HB.out | apply below_alloc | apply pw_below_drewN | apply below_drew1) | exact HB.out)) hb); clear HO_3; clear HB; have HO_3 := n0_; have HB := n1_; clear n0_ n1_; (try clear hb); (try clear hb2); (try clear hk); (try clear hi)))
        go_ret
        exact ⟨by first | rfl | (simp [errW_none, errW_some] <;> rfl) | (simp [*, errW_none, errW_some] <;> rfl), by repeat (first | (with_reducible first | exact HB.out | apply below_alloc | apply pw_below_drewN | apply below_drew1) | exact HB.out)⟩

/-! ### addr_number: function 68 -/
def addr_number.f (a0 : ByteArray) (a1 : Int) (a2 : Int) : Option (Int × Int × Bool) := if (0 ≤ a1 ∧ a1 ≤ (a0.size : Int) ∧ a0.size ≤ 140737488355328) ∧ (0 ≤ a2 ∧ a2 ≤ 1000) then some ((Go.Proofs.YtcebnaknodghcaaDoor.HNum.numF a0 a1.toNat a2 (a0.size - a1.toNat) 0 a1.toNat).1, (((Go.Proofs.YtcebnaknodghcaaDoor.HNum.numF a0 a1.toNat a2 (a0.size - a1.toNat) 0 a1.toNat).2 : Nat) : Int), decide (a1.toNat < (Go.Proofs.YtcebnaknodghcaaDoor.HNum.numF a0 a1.toNat a2 (a0.size - a1.toNat) 0 a1.toNat).2)) else none
set_option maxHeartbeats 8000000 in
set_option maxRecDepth 100000 in
theorem addr_number.calls (a0 : ByteArray) (a1 : Int) (a2 : Int) (r1 : Int) (r2 : Int) (r3 : Bool) (w : World) (h : addr_number.f a0 a1 a2 = some (r1, r2, r3)) :
    Calls Tryd.prog 68 #[.string a0, .int .i64 a1, .int .i64 a2] w fun e w' => e = .returned (.tuple #[.int .i64 r1, .int .i64 r2, .bool r3]) ∧ Drawn0 w w' := by
  unfold addr_number.f at h
  split at h
  · rename_i hb
    obtain ⟨⟨h0, h1, h2⟩, h3, h4⟩ := hb
    obtain ⟨j, rfl⟩ : ∃ j : Nat, a1 = j := ⟨a1.toNat, by omega⟩
    simp only [Int.toNat_natCast, Option.some.injEq, Prod.mk.injEq] at h
    obtain ⟨rfl, rfl, rfl⟩ := h
    exact (Go.Proofs.YtcebnaknodghcaaDoor.HNum.number_calls a0 j a2 w h2 (by omega) h3 h4).mono fun e w' ⟨he, hw⟩ => ⟨he, by subst hw; first | rfl | exact ⟨0, rfl⟩ | exact Below.refl _ _⟩
  · cases h


end Go.Proofs.YtcebnaknodghcaaDoor.PAdN
