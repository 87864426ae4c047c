-- Laid by a program of this session (wip/tools/mk.py) over the kit's print: functions, contracts, walks; not written by hand, not trusted: Lean checks it.
import Derived.Test.YtcebnaknodghcaaDoorPAddrx0
import Derived.Test.YtcebnaknodghcaaDoorPAddrx1
import Derived.Test.YtcebnaknodghcaaDoorPAddrx2
namespace Go.Proofs.YtcebnaknodghcaaDoor.PAddr
open Go.RowKit Go.Proofs.YtcebnaknodghcaaDoorW.PrintWords Go.Proofs.YtcebnaknodghcaaDoorW.PrintLast Go.Proofs.YtcebnaknodghcaaDoorW.PrintMore
attribute [local go_sem] max2_int min2_int max_two min_two max_three min_three max_four min_four   -- for this text's walks alone
set_option linter.unusedVariables false
set_option linter.unusedSimpArgs false

/-! ### towroperef05_Text: function 19 -/
def towroperef05_Text.f (k : Nat) (a0 : Int) : Option (ByteArray) := (towroperef04_Number.f k (wrap64 (Int.tdiv (wrap64 (a0)) 16777216))).bind fun t148 => (if t148.size + 1 ≤ 9223372036854775807 then ((towroperef04_Number.f k (Int.tmod (wrap64 (Int.tdiv (wrap64 (a0)) 65536)) 256)).bind fun t149 => (if (t148 ++ (⟨#[46]⟩ : ByteArray)).size + t149.size ≤ 9223372036854775807 then (if ((t148 ++ (⟨#[46]⟩ : ByteArray)) ++ t149).size + 1 ≤ 9223372036854775807 then ((towroperef04_Number.f k (Int.tmod (wrap64 (Int.tdiv (wrap64 (a0)) 256)) 256)).bind fun t150 => (if (((t148 ++ (⟨#[46]⟩ : ByteArray)) ++ t149) ++ (⟨#[46]⟩ : ByteArray)).size + t150.size ≤ 9223372036854775807 then (if ((((t148 ++ (⟨#[46]⟩ : ByteArray)) ++ t149) ++ (⟨#[46]⟩ : ByteArray)) ++ t150).size + 1 ≤ 9223372036854775807 then ((towroperef04_Number.f k (Int.tmod (wrap64 (a0)) 256)).bind fun t151 => (if (((((t148 ++ (⟨#[46]⟩ : ByteArray)) ++ t149) ++ (⟨#[46]⟩ : ByteArray)) ++ t150) ++ (⟨#[46]⟩ : ByteArray)).size + t151.size ≤ 9223372036854775807 then (some ((((((t148 ++ (⟨#[46]⟩ : ByteArray)) ++ t149) ++ (⟨#[46]⟩ : ByteArray)) ++ t150) ++ (⟨#[46]⟩ : ByteArray)) ++ t151)) else (none))) else (none)) else (none))) else (none)) else (none))) else (none))
theorem towroperef05_Text.mono : ∀ a0 k, LeO (towroperef05_Text.f k a0) (towroperef05_Text.f (k + 1) a0) := by
  intro a0 k
  unfold towroperef05_Text.f
  repeat' first
      | (with_reducible exact towroperef04_Number.mono _ _)
      | (with_reducible exact LeO.refl _)
      | (with_reducible exact LeO.none _)
      | (with_reducible refine LeO.ite ?_ ?_)
      | (with_reducible refine LeO.bind ?_ (fun _ => ?_))
      | exact towroperef04_Number.mono _ _
      | exact LeO.none _
      | refine LeO.ite ?_ ?_
      | refine LeO.bind ?_ (fun _ => ?_)
set_option maxHeartbeats 8000000 in
set_option maxRecDepth 100000 in
theorem towroperef05_Text.calls (k : Nat) (a0 : Int) (r : ByteArray) (w : World) (h : towroperef05_Text.f k a0 = some r) :
    Calls Tryd.prog 19 #[.int .u32 a0] w fun e w' => e = .returned (.string r) ∧ Below w.heap.size w w' := by
  have HB := Aside0.mk (Below.refl w.heap.size w)
  have H : ((towroperef04_Number.f k (wrap64 (Int.tdiv (wrap64 (a0)) 16777216))).bind fun t148 => (if t148.size + 1 ≤ 9223372036854775807 then ((towroperef04_Number.f k (Int.tmod (wrap64 (Int.tdiv (wrap64 (a0)) 65536)) 256)).bind fun t149 => (if (t148 ++ (⟨#[46]⟩ : ByteArray)).size + t149.size ≤ 9223372036854775807 then (if ((t148 ++ (⟨#[46]⟩ : ByteArray)) ++ t149).size + 1 ≤ 9223372036854775807 then ((towroperef04_Number.f k (Int.tmod (wrap64 (Int.tdiv (wrap64 (a0)) 256)) 256)).bind fun t150 => (if (((t148 ++ (⟨#[46]⟩ : ByteArray)) ++ t149) ++ (⟨#[46]⟩ : ByteArray)).size + t150.size ≤ 9223372036854775807 then (if ((((t148 ++ (⟨#[46]⟩ : ByteArray)) ++ t149) ++ (⟨#[46]⟩ : ByteArray)) ++ t150).size + 1 ≤ 9223372036854775807 then ((towroperef04_Number.f k (Int.tmod (wrap64 (a0)) 256)).bind fun t151 => (if (((((t148 ++ (⟨#[46]⟩ : ByteArray)) ++ t149) ++ (⟨#[46]⟩ : ByteArray)) ++ t150) ++ (⟨#[46]⟩ : ByteArray)).size + t151.size ≤ 9223372036854775807 then (some ((((((t148 ++ (⟨#[46]⟩ : ByteArray)) ++ t149) ++ (⟨#[46]⟩ : ByteArray)) ++ t150) ++ (⟨#[46]⟩ : ByteArray)) ++ t151)) else (none))) else (none)) else (none))) else (none)) else (none))) else (none))) = some r := h
  clear h
  replace H := Option.bind_eq_some_iff.mp H
  obtain ⟨t148, A20, H⟩ := H
  replace H : (if t148.size + 1 ≤ 9223372036854775807 then ((towroperef04_Number.f k (Int.tmod (wrap64 (Int.tdiv (wrap64 (a0)) 65536)) 256)).bind fun t149 => (if (t148 ++ (⟨#[46]⟩ : ByteArray)).size + t149.size ≤ 9223372036854775807 then (if ((t148 ++ (⟨#[46]⟩ : ByteArray)) ++ t149).size + 1 ≤ 9223372036854775807 then ((towroperef04_Number.f k (Int.tmod (wrap64 (Int.tdiv (wrap64 (a0)) 256)) 256)).bind fun t150 => (if (((t148 ++ (⟨#[46]⟩ : ByteArray)) ++ t149) ++ (⟨#[46]⟩ : ByteArray)).size + t150.size ≤ 9223372036854775807 then (if ((((t148 ++ (⟨#[46]⟩ : ByteArray)) ++ t149) ++ (⟨#[46]⟩ : ByteArray)) ++ t150).size + 1 ≤ 9223372036854775807 then ((towroperef04_Number.f k (Int.tmod (wrap64 (a0)) 256)).bind fun t151 => (if (((((t148 ++ (⟨#[46]⟩ : ByteArray)) ++ t149) ++ (⟨#[46]⟩ : ByteArray)) ++ t150) ++ (⟨#[46]⟩ : ByteArray)).size + t151.size ≤ 9223372036854775807 then (some ((((((t148 ++ (⟨#[46]⟩ : ByteArray)) ++ t149) ++ (⟨#[46]⟩ : ByteArray)) ++ t150) ++ (⟨#[46]⟩ : ByteArray)) ++ t151)) else (none))) else (none)) else (none))) else (none)) else (none))) else (none)) = some r := H
  have A2 := Aside0.mk A20
  clear A20
  by_cases c3 : t148.size + 1 ≤ 9223372036854775807
  · rw [if_pos c3] at H
    have c3b0 := eq_true c3
    have c3b1 : decide (t148.size + 1 ≤ 9223372036854775807) = true := decide_eq_true c3
    try have c3b2 : (9223372036854775807 < t148.size + 1) = False := eq_false (Nat.not_lt.2 c3)
    replace H := Option.bind_eq_some_iff.mp H
    obtain ⟨t149, A40, H⟩ := H
    replace H : (if (t148 ++ (⟨#[46]⟩ : ByteArray)).size + t149.size ≤ 9223372036854775807 then (if ((t148 ++ (⟨#[46]⟩ : ByteArray)) ++ t149).size + 1 ≤ 9223372036854775807 then ((towroperef04_Number.f k (Int.tmod (wrap64 (Int.tdiv (wrap64 (a0)) 256)) 256)).bind fun t150 => (if (((t148 ++ (⟨#[46]⟩ : ByteArray)) ++ t149) ++ (⟨#[46]⟩ : ByteArray)).size + t150.size ≤ 9223372036854775807 then (if ((((t148 ++ (⟨#[46]⟩ : ByteArray)) ++ t149) ++ (⟨#[46]⟩ : ByteArray)) ++ t150).size + 1 ≤ 9223372036854775807 then ((towroperef04_Number.f k (Int.tmod (wrap64 (a0)) 256)).bind fun t151 => (if (((((t148 ++ (⟨#[46]⟩ : ByteArray)) ++ t149) ++ (⟨#[46]⟩ : ByteArray)) ++ t150) ++ (⟨#[46]⟩ : ByteArray)).size + t151.size ≤ 9223372036854775807 then (some ((((((t148 ++ (⟨#[46]⟩ : ByteArray)) ++ t149) ++ (⟨#[46]⟩ : ByteArray)) ++ t150) ++ (⟨#[46]⟩ : ByteArray)) ++ t151)) else (none))) else (none)) else (none))) else (none)) else (none)) = some r := H
    have A4 := Aside0.mk A40
    clear A40
    by_cases c5 : (t148 ++ (⟨#[46]⟩ : ByteArray)).size + t149.size ≤ 9223372036854775807
    · rw [if_pos c5] at H
      have c5b0 := eq_true c5
      have c5b1 : decide ((t148 ++ (⟨#[46]⟩ : ByteArray)).size + t149.size ≤ 9223372036854775807) = true := decide_eq_true c5
      try have c5b2 : (9223372036854775807 < (t148 ++ (⟨#[46]⟩ : ByteArray)).size + t149.size) = False := eq_false (Nat.not_lt.2 c5)
      try have c5b2z : (9223372036854775807 < t148.size + 1 + t149.size) = False := eq_false (Nat.not_lt.2 (by have q_ := c5; (try simp only [ByteArray.size_append] at q_); exact q_))
      by_cases c6 : ((t148 ++ (⟨#[46]⟩ : ByteArray)) ++ t149).size + 1 ≤ 9223372036854775807
      · rw [if_pos c6] at H
        have c6b0 := eq_true c6
        have c6b1 : decide (((t148 ++ (⟨#[46]⟩ : ByteArray)) ++ t149).size + 1 ≤ 9223372036854775807) = true := decide_eq_true c6
        try have c6b2 : (9223372036854775807 < ((t148 ++ (⟨#[46]⟩ : ByteArray)) ++ t149).size + 1) = False := eq_false (Nat.not_lt.2 c6)
        try have c6b2z : (9223372036854775807 < t148.size + 1 + t149.size + 1) = False := eq_false (Nat.not_lt.2 (by have q_ := c6; (try simp only [ByteArray.size_append] at q_); exact q_))
        replace H := Option.bind_eq_some_iff.mp H
        obtain ⟨t150, A70, H⟩ := H
        replace H : (if (((t148 ++ (⟨#[46]⟩ : ByteArray)) ++ t149) ++ (⟨#[46]⟩ : ByteArray)).size + t150.size ≤ 9223372036854775807 then (if ((((t148 ++ (⟨#[46]⟩ : ByteArray)) ++ t149) ++ (⟨#[46]⟩ : ByteArray)) ++ t150).size + 1 ≤ 9223372036854775807 then ((towroperef04_Number.f k (Int.tmod (wrap64 (a0)) 256)).bind fun t151 => (if (((((t148 ++ (⟨#[46]⟩ : ByteArray)) ++ t149) ++ (⟨#[46]⟩ : ByteArray)) ++ t150) ++ (⟨#[46]⟩ : ByteArray)).size + t151.size ≤ 9223372036854775807 then (some ((((((t148 ++ (⟨#[46]⟩ : ByteArray)) ++ t149) ++ (⟨#[46]⟩ : ByteArray)) ++ t150) ++ (⟨#[46]⟩ : ByteArray)) ++ t151)) else (none))) else (none)) else (none)) = some r := H
        have A7 := Aside0.mk A70
        clear A70
        by_cases c8 : (((t148 ++ (⟨#[46]⟩ : ByteArray)) ++ t149) ++ (⟨#[46]⟩ : ByteArray)).size + t150.size ≤ 9223372036854775807
        · rw [if_pos c8] at H
          have c8b0 := eq_true c8
          have c8b1 : decide ((((t148 ++ (⟨#[46]⟩ : ByteArray)) ++ t149) ++ (⟨#[46]⟩ : ByteArray)).size + t150.size ≤ 9223372036854775807) = true := decide_eq_true c8
          try have c8b2 : (9223372036854775807 < (((t148 ++ (⟨#[46]⟩ : ByteArray)) ++ t149) ++ (⟨#[46]⟩ : ByteArray)).size + t150.size) = False := eq_false (Nat.not_lt.2 c8)
          try have c8b2z : (9223372036854775807 < t148.size + 1 + t149.size + 1 + t150.size) = False := eq_false (Nat.not_lt.2 (by have q_ := c8; (try simp only [ByteArray.size_append] at q_); exact q_))
          by_cases c9 : ((((t148 ++ (⟨#[46]⟩ : ByteArray)) ++ t149) ++ (⟨#[46]⟩ : ByteArray)) ++ t150).size + 1 ≤ 9223372036854775807
          · rw [if_pos c9] at H
            have c9b0 := eq_true c9
            have c9b1 : decide (((((t148 ++ (⟨#[46]⟩ : ByteArray)) ++ t149) ++ (⟨#[46]⟩ : ByteArray)) ++ t150).size + 1 ≤ 9223372036854775807) = true := decide_eq_true c9
            try have c9b2 : (9223372036854775807 < ((((t148 ++ (⟨#[46]⟩ : ByteArray)) ++ t149) ++ (⟨#[46]⟩ : ByteArray)) ++ t150).size + 1) = False := eq_false (Nat.not_lt.2 c9)
            try have c9b2z : (9223372036854775807 < t148.size + 1 + t149.size + 1 + t150.size + 1) = False := eq_false (Nat.not_lt.2 (by have q_ := c9; (try simp only [ByteArray.size_append] at q_); exact q_))
            replace H := Option.bind_eq_some_iff.mp H
            obtain ⟨t151, A100, H⟩ := H
            replace H : (if (((((t148 ++ (⟨#[46]⟩ : ByteArray)) ++ t149) ++ (⟨#[46]⟩ : ByteArray)) ++ t150) ++ (⟨#[46]⟩ : ByteArray)).size + t151.size ≤ 9223372036854775807 then (some ((((((t148 ++ (⟨#[46]⟩ : ByteArray)) ++ t149) ++ (⟨#[46]⟩ : ByteArray)) ++ t150) ++ (⟨#[46]⟩ : ByteArray)) ++ t151)) else (none)) = some r := H
            have A10 := Aside0.mk A100
            clear A100
            by_cases c11 : (((((t148 ++ (⟨#[46]⟩ : ByteArray)) ++ t149) ++ (⟨#[46]⟩ : ByteArray)) ++ t150) ++ (⟨#[46]⟩ : ByteArray)).size + t151.size ≤ 9223372036854775807
            · rw [if_pos c11] at H
              have c11b0 := eq_true c11
              have c11b1 : decide ((((((t148 ++ (⟨#[46]⟩ : ByteArray)) ++ t149) ++ (⟨#[46]⟩ : ByteArray)) ++ t150) ++ (⟨#[46]⟩ : ByteArray)).size + t151.size ≤ 9223372036854775807) = true := decide_eq_true c11
              try have c11b2 : (9223372036854775807 < (((((t148 ++ (⟨#[46]⟩ : ByteArray)) ++ t149) ++ (⟨#[46]⟩ : ByteArray)) ++ t150) ++ (⟨#[46]⟩ : ByteArray)).size + t151.size) = False := eq_false (Nat.not_lt.2 c11)
              try have c11b2z : (9223372036854775807 < t148.size + 1 + t149.size + 1 + t150.size + 1 + t151.size) = False := eq_false (Nat.not_lt.2 (by have q_ := c11; (try simp only [ByteArray.size_append] at q_); exact q_))
              obtain rfl := Option.some.inj H
              go_enter Tryd.func19, Tryd.ntmps19
              go_wp2_with (first | ((with_reducible refine gate_callee (f := 37) rfl ?_); refine goesL_ (some 8) rfl rfl Tryd.func37 (by kernel_rfl) rfl #[.int .i64 (wrap64 (Int.tdiv (wrap64 (a0)) 16777216))] rfl (by (try simp only [List.map_toArray, List.map_cons, List.map_nil]); first | done | rfl | (simp only [List.length_drop, List.length_take]; rfl) | (go_simp; done) | (go_simp; omega)) ?_; (with_reducible refine (towroperef04_Number.calls k (wrap64 (Int.tdiv (wrap64 (a0)) 16777216)) t148 _ A2.out).mono ?_); rintro e w12 ⟨rfl, hb⟩; refine ⟨_, rfl, ?_⟩; have n0_ := Aside0.mk (below_step (by repeat (first | (with_reducible first | exact HB.out | apply below_alloc | apply pw_below_drewN | apply below_drew1) | exact HB.out)) hb); clear HB; have HB := n0_; clear n0_; (try clear hb); (try clear hb2); (try clear hk); (try clear hi)) | ((with_reducible refine gate_callee (f := 37) rfl ?_); refine goesL_ (some 13) rfl rfl Tryd.func37 (by kernel_rfl) rfl #[.int .i64 (Int.tmod (wrap64 (Int.tdiv (wrap64 (a0)) 65536)) 256)] rfl (by (try simp only [List.map_toArray, List.map_cons, List.map_nil]); first | done | rfl | (simp only [List.length_drop, List.length_take]; rfl) | (go_simp; done) | (go_simp; omega)) ?_; (with_reducible refine (towroperef04_Number.calls k (Int.tmod (wrap64 (Int.tdiv (wrap64 (a0)) 65536)) 256) t149 _ A4.out).mono ?_); rintro e w13 ⟨rfl, hb⟩; refine ⟨_, rfl, ?_⟩; have n0_ := Aside0.mk (below_step (by repeat (first | (with_reducible first | exact HB.out | apply below_alloc | apply pw_below_drewN | apply below_drew1) | exact HB.out)) hb); clear HB; have HB := n0_; clear n0_; (try clear hb); (try clear hb2); (try clear hk); (try clear hi)) | ((with_reducible refine gate_callee (f := 37) rfl ?_); refine goesL_ (some 19) rfl rfl Tryd.func37 (by kernel_rfl) rfl #[.int .i64 (Int.tmod (wrap64 (Int.tdiv (wrap64 (a0)) 256)) 256)] rfl (by (try simp only [List.map_toArray, List.map_cons, List.map_nil]); first | done | rfl | (simp only [List.length_drop, List.length_take]; rfl) | (go_simp; done) | (go_simp; omega)) ?_; (with_reducible refine (towroperef04_Number.calls k (Int.tmod (wrap64 (Int.tdiv (wrap64 (a0)) 256)) 256) t150 _ A7.out).mono ?_); rintro e w14 ⟨rfl, hb⟩; refine ⟨_, rfl, ?_⟩; have n0_ := Aside0.mk (below_step (by repeat (first | (with_reducible first | exact HB.out | apply below_alloc | apply pw_below_drewN | apply below_drew1) | exact HB.out)) hb); clear HB; have HB := n0_; clear n0_; (try clear hb); (try clear hb2); (try clear hk); (try clear hi)) | ((with_reducible refine gate_callee (f := 37) rfl ?_); refine goesL_ (some 24) rfl rfl Tryd.func37 (by kernel_rfl) rfl #[.int .i64 (Int.tmod (wrap64 (a0)) 256)] rfl (by (try simp only [List.map_toArray, List.map_cons, List.map_nil]); first | done | rfl | (simp only [List.length_drop, List.length_take]; rfl) | (go_simp; done) | (go_simp; omega)) ?_; (with_reducible refine (towroperef04_Number.calls k (Int.tmod (wrap64 (a0)) 256) t151 _ A10.out).mono ?_); rintro e w15 ⟨rfl, hb⟩; refine ⟨_, rfl, ?_⟩; have n0_ := Aside0.mk (below_step (by repeat (first | (with_reducible first | exact HB.out | apply below_alloc | apply pw_below_drewN | apply below_drew1) | exact HB.out)) hb); clear HB; have HB := n0_; clear n0_; (try clear hb); (try clear hb2); (try clear hk); (try clear hi)))
              go_ret
              exact ⟨by first | rfl | (simp [errW_none, errW_some] <;> rfl) | (simp [*, errW_none, errW_some] <;> rfl), by repeat (first | (with_reducible first | exact HB.out | apply below_alloc | apply pw_below_drewN | apply below_drew1) | exact HB.out)⟩
            · rw [if_neg c11] at H
              exact absurd H (by simp)
          · rw [if_neg c9] at H
            exact absurd H (by simp)
        · rw [if_neg c8] at H
          exact absurd H (by simp)
      · rw [if_neg c6] at H
        exact absurd H (by simp)
    · rw [if_neg c5] at H
      exact absurd H (by simp)
  · rw [if_neg c3] at H
    exact absurd H (by simp)

/-! ### addr_Kind: function 21 -/
def addr_Kind.f (a0 : Int) : Option (Int) := if a0 = 0 then (some 0) else (if (a0 / 16777216) = 127 then (some 1) else (if (a0 / 268435456) = 14 then (some 2) else (if a0 = 4294967295 then (some 3) else (some 4))))
set_option maxHeartbeats 8000000 in
set_option maxRecDepth 100000 in
theorem addr_Kind.calls (a0 : Int) (r : Int) (w : World) (h : addr_Kind.f a0 = some r) :
    Calls Tryd.prog 21 #[.int .u32 a0] w fun e w' => e = .returned (.int .i64 r) ∧ Drawn0 w w' := by
  have H : (if a0 = 0 then (some 0) else (if (a0 / 16777216) = 127 then (some 1) else (if (a0 / 268435456) = 14 then (some 2) else (if a0 = 4294967295 then (some 3) else (some 4))))) = some r := h
  clear h
  by_cases c2 : a0 = 0
  · rw [if_pos c2] at H
    have c2b0 : (a0 == 0) = true := beq_iff_eq.mpr c2
    have c2b1 : (a0 != 0) = false := bne_eq_false_iff_eq.mpr c2
    clear c2
    obtain rfl := Option.some.inj H
    go_enter Tryd.func21, Tryd.ntmps21
    go_wp2
    go_ret
    exact ⟨by first | rfl | (simp; done) | (simp [*]; done), by repeat (first | exact Drawn0.refl _ | apply Drawn0.step)⟩
  · rw [if_neg c2] at H
    have c2b0 : (a0 == 0) = false := beq_eq_false_iff_ne.mpr c2
    have c2b1 : (a0 != 0) = true := bne_iff_ne.mpr c2
    by_cases c3 : (a0 / 16777216) = 127
    · rw [if_pos c3] at H
      have c3b0 : ((a0 / 16777216) == 127) = true := beq_iff_eq.mpr c3
      have c3b1 : ((a0 / 16777216) != 127) = false := bne_eq_false_iff_eq.mpr c3
      clear c3
      obtain rfl := Option.some.inj H
      go_enter Tryd.func21, Tryd.ntmps21
      go_wp2
      go_ret
      exact ⟨by first | rfl | (simp; done) | (simp [*]; done), by repeat (first | exact Drawn0.refl _ | apply Drawn0.step)⟩
    · rw [if_neg c3] at H
      have c3b0 : ((a0 / 16777216) == 127) = false := beq_eq_false_iff_ne.mpr c3
      have c3b1 : ((a0 / 16777216) != 127) = true := bne_iff_ne.mpr c3
      by_cases c4 : (a0 / 268435456) = 14
      · rw [if_pos c4] at H
        have c4b0 : ((a0 / 268435456) == 14) = true := beq_iff_eq.mpr c4
        have c4b1 : ((a0 / 268435456) != 14) = false := bne_eq_false_iff_eq.mpr c4
        clear c4
        obtain rfl := Option.some.inj H
        go_enter Tryd.func21, Tryd.ntmps21
        go_wp2
        go_ret
        exact ⟨by first | rfl | (simp; done) | (simp [*]; done), by repeat (first | exact Drawn0.refl _ | apply Drawn0.step)⟩
      · rw [if_neg c4] at H
        have c4b0 : ((a0 / 268435456) == 14) = false := beq_eq_false_iff_ne.mpr c4
        have c4b1 : ((a0 / 268435456) != 14) = true := bne_iff_ne.mpr c4
        by_cases c5 : a0 = 4294967295
        · rw [if_pos c5] at H
          have c5b0 : (a0 == 4294967295) = true := beq_iff_eq.mpr c5
          have c5b1 : (a0 != 4294967295) = false := bne_eq_false_iff_eq.mpr c5
          clear c5
          obtain rfl := Option.some.inj H
          go_enter Tryd.func21, Tryd.ntmps21
          go_wp2
          go_ret
          exact ⟨by first | rfl | (simp; done) | (simp [*]; done), by repeat (first | exact Drawn0.refl _ | apply Drawn0.step)⟩
        · rw [if_neg c5] at H
          have c5b0 : (a0 == 4294967295) = false := beq_eq_false_iff_ne.mpr c5
          have c5b1 : (a0 != 4294967295) = true := bne_iff_ne.mpr c5
          obtain rfl := Option.some.inj H
          go_enter Tryd.func21, Tryd.ntmps21
          go_wp2
          go_ret
          exact ⟨by first | rfl | (simp; done) | (simp [*]; done), by repeat (first | exact Drawn0.refl _ | apply Drawn0.step)⟩

/-! ### towroperef05_Kind: function 22 -/
def towroperef05_Kind.f (a0 : Int) : Option (Int) := if a0 = 0 then (some 0) else (if a0 = 4294967295 then (some 3) else (if ((Int.tdiv a0 16777216) % 4294967296) = 127 then (some 1) else (if a0 ≥ 3758096384 then (if a0 < 4026531840 then (some 2) else (some 4)) else (some 4))))
set_option maxHeartbeats 8000000 in
set_option maxRecDepth 100000 in
theorem towroperef05_Kind.calls (a0 : Int) (r : Int) (w : World) (h : towroperef05_Kind.f a0 = some r) :
    Calls Tryd.prog 22 #[.int .u32 a0] w fun e w' => e = .returned (.int .i64 r) ∧ Drawn0 w w' := by
  have H : (if a0 = 0 then (some 0) else (if a0 = 4294967295 then (some 3) else (if ((Int.tdiv a0 16777216) % 4294967296) = 127 then (some 1) else (if a0 ≥ 3758096384 then (if a0 < 4026531840 then (some 2) else (some 4)) else (some 4))))) = some r := h
  clear h
  by_cases c2 : a0 = 0
  · rw [if_pos c2] at H
    have c2b0 : (a0 == 0) = true := beq_iff_eq.mpr c2
    have c2b1 : (a0 != 0) = false := bne_eq_false_iff_eq.mpr c2
    clear c2
    obtain rfl := Option.some.inj H
    go_enter Tryd.func22, Tryd.ntmps22
    go_wp2
    go_ret
    exact ⟨by first | rfl | (simp; done) | (simp [*]; done), by repeat (first | exact Drawn0.refl _ | apply Drawn0.step)⟩
  · rw [if_neg c2] at H
    have c2b0 : (a0 == 0) = false := beq_eq_false_iff_ne.mpr c2
    have c2b1 : (a0 != 0) = true := bne_iff_ne.mpr c2
    by_cases c3 : a0 = 4294967295
    · rw [if_pos c3] at H
      have c3b0 : (a0 == 4294967295) = true := beq_iff_eq.mpr c3
      have c3b1 : (a0 != 4294967295) = false := bne_eq_false_iff_eq.mpr c3
      clear c3
      obtain rfl := Option.some.inj H
      go_enter Tryd.func22, Tryd.ntmps22
      go_wp2
      go_ret
      exact ⟨by first | rfl | (simp; done) | (simp [*]; done), by repeat (first | exact Drawn0.refl _ | apply Drawn0.step)⟩
    · rw [if_neg c3] at H
      have c3b0 : (a0 == 4294967295) = false := beq_eq_false_iff_ne.mpr c3
      have c3b1 : (a0 != 4294967295) = true := bne_iff_ne.mpr c3
      by_cases c4 : ((Int.tdiv a0 16777216) % 4294967296) = 127
      · rw [if_pos c4] at H
        have c4b0 : (((Int.tdiv a0 16777216) % 4294967296) == 127) = true := beq_iff_eq.mpr c4
        have c4b1 : (((Int.tdiv a0 16777216) % 4294967296) != 127) = false := bne_eq_false_iff_eq.mpr c4
        clear c4
        obtain rfl := Option.some.inj H
        go_enter Tryd.func22, Tryd.ntmps22
        go_wp2
        go_ret
        exact ⟨by first | rfl | (simp; done) | (simp [*]; done), by repeat (first | exact Drawn0.refl _ | apply Drawn0.step)⟩
      · rw [if_neg c4] at H
        have c4b0 : (((Int.tdiv a0 16777216) % 4294967296) == 127) = false := beq_eq_false_iff_ne.mpr c4
        have c4b1 : (((Int.tdiv a0 16777216) % 4294967296) != 127) = true := bne_iff_ne.mpr c4
        by_cases c5 : a0 ≥ 3758096384
        · rw [if_pos c5] at H
          have c5b0 : decide (3758096384 ≤ a0) = true := decide_eq_true c5
          clear c5
          by_cases c6 : a0 < 4026531840
          · rw [if_pos c6] at H
            have c6b0 : decide (a0 < 4026531840) = true := decide_eq_true c6
            clear c6
            obtain rfl := Option.some.inj H
            go_enter Tryd.func22, Tryd.ntmps22
            go_wp2
            go_ret
            exact ⟨by first | rfl | (simp; done) | (simp [*]; done), by repeat (first | exact Drawn0.refl _ | apply Drawn0.step)⟩
          · rw [if_neg c6] at H
            have c6b0 : decide (a0 < 4026531840) = false := decide_eq_false c6
            clear c6
            obtain rfl := Option.some.inj H
            go_enter Tryd.func22, Tryd.ntmps22
            go_wp2
            go_ret
            exact ⟨by first | rfl | (simp; done) | (simp [*]; done), by repeat (first | exact Drawn0.refl _ | apply Drawn0.step)⟩
        · rw [if_neg c5] at H
          have c5b0 : decide (3758096384 ≤ a0) = false := decide_eq_false c5
          clear c5
          obtain rfl := Option.some.inj H
          go_enter Tryd.func22, Tryd.ntmps22
          go_wp2
          go_ret
          exact ⟨by first | rfl | (simp; done) | (simp [*]; done), by repeat (first | exact Drawn0.refl _ | apply Drawn0.step)⟩

/-! ### towropelaw05_AddrTexts: function 4 -/
def towropelaw05_AddrTexts.f (k : Nat) (a0 : Int) : Option (Bool) := (addr_Text.f k a0).bind fun t152 => ((addr_Parse.f k t152).bind fun bt153 => ((towroperef05_Text.f k a0).bind fun t156 => (if t152.toList = t156.toList then (if bt153.1 = a0 then ((towropelaw05_code.f bt153.2.1).bind fun t157 => (if t157 = 0 then (if bt153.2.2 = (t152.size : Int) then ((addr_Kind.f a0).bind fun t158 => ((towroperef05_Kind.f a0).bind fun t159 => (if t158 = t159 then ((towropelaw05_live.f k).bind fun t160 => (some t160)) else (some false)))) else (some false)) else (some false))) else (some false)) else (some false))))
theorem towropelaw05_AddrTexts.mono : ∀ a0 k, LeO (towropelaw05_AddrTexts.f k a0) (towropelaw05_AddrTexts.f (k + 1) a0) := by
  intro a0 k
  unfold towropelaw05_AddrTexts.f
  repeat' first
      | (with_reducible exact addr_Parse.mono _ _)
      | (with_reducible exact addr_Text.mono _ _)
      | (with_reducible exact towropelaw05_live.mono _)
      | (with_reducible exact towroperef05_Text.mono _ _)
      | (with_reducible exact LeO.refl _)
      | (with_reducible exact LeO.none _)
      | (with_reducible refine LeO.ite ?_ ?_)
      | (with_reducible refine LeO.bind ?_ (fun _ => ?_))
      | exact addr_Parse.mono _ _
      | exact addr_Text.mono _ _
      | exact towropelaw05_live.mono _
      | exact towroperef05_Text.mono _ _
      | exact LeO.none _
      | refine LeO.ite ?_ ?_
      | refine LeO.bind ?_ (fun _ => ?_)
set_option maxHeartbeats 8000000 in
set_option maxRecDepth 100000 in
theorem towropelaw05_AddrTexts.calls (k : Nat) (a0 : Int) (r : Bool) (w : World) (ht : Go.Proofs.YtcebnaknodghcaaDoor.HItoa.Tab w) (h : towropelaw05_AddrTexts.f k a0 = some r) :
    Calls Tryd.prog 4 #[.int .u32 a0] w fun e w' => e = .returned (.bool r) ∧ Below w.heap.size w w' := by
  have HT := Aside0.mk ht
  clear ht
  have HB := Aside0.mk (Below.refl w.heap.size w)
  have H : ((addr_Text.f k a0).bind fun t152 => ((addr_Parse.f k t152).bind fun bt153 => ((towroperef05_Text.f k a0).bind fun t156 => (if t152.toList = t156.toList then (if bt153.1 = a0 then ((towropelaw05_code.f bt153.2.1).bind fun t157 => (if t157 = 0 then (if bt153.2.2 = (t152.size : Int) then ((addr_Kind.f a0).bind fun t158 => ((towroperef05_Kind.f a0).bind fun t159 => (if t158 = t159 then ((towropelaw05_live.f k).bind fun t160 => (some t160)) else (some false)))) else (some false)) else (some false))) else (some false)) else (some false))))) = some r := h
  clear h
  replace H := Option.bind_eq_some_iff.mp H
  obtain ⟨t152, A20, H⟩ := H
  replace H : ((addr_Parse.f k t152).bind fun bt153 => ((towroperef05_Text.f k a0).bind fun t156 => (if t152.toList = t156.toList then (if bt153.1 = a0 then ((towropelaw05_code.f bt153.2.1).bind fun t157 => (if t157 = 0 then (if bt153.2.2 = (t152.size : Int) then ((addr_Kind.f a0).bind fun t158 => ((towroperef05_Kind.f a0).bind fun t159 => (if t158 = t159 then ((towropelaw05_live.f k).bind fun t160 => (some t160)) else (some false)))) else (some false)) else (some false))) else (some false)) else (some false)))) = some r := H
  have A2 := Aside0.mk A20
  clear A20
  replace H := Option.bind_eq_some_iff.mp H
  obtain ⟨⟨t153, t154, t155⟩, A30, H⟩ := H
  replace H : ((towroperef05_Text.f k a0).bind fun t156 => (if t152.toList = t156.toList then (if t153 = a0 then ((towropelaw05_code.f t154).bind fun t157 => (if t157 = 0 then (if t155 = (t152.size : Int) then ((addr_Kind.f a0).bind fun t158 => ((towroperef05_Kind.f a0).bind fun t159 => (if t158 = t159 then ((towropelaw05_live.f k).bind fun t160 => (some t160)) else (some false)))) else (some false)) else (some false))) else (some false)) else (some false))) = some r := H
  have A3 := Aside0.mk A30
  clear A30
  replace H := Option.bind_eq_some_iff.mp H
  obtain ⟨t156, A40, H⟩ := H
  replace H : (if t152.toList = t156.toList then (if t153 = a0 then ((towropelaw05_code.f t154).bind fun t157 => (if t157 = 0 then (if t155 = (t152.size : Int) then ((addr_Kind.f a0).bind fun t158 => ((towroperef05_Kind.f a0).bind fun t159 => (if t158 = t159 then ((towropelaw05_live.f k).bind fun t160 => (some t160)) else (some false)))) else (some false)) else (some false))) else (some false)) else (some false)) = some r := H
  have A4 := Aside0.mk A40
  clear A40
  by_cases c5 : t152.toList = t156.toList
  · rw [if_pos c5] at H
    have c5b0 : (t152.toList == t156.toList) = true := beq_iff_eq.mpr c5
    have c5b1 : (t152.toList != t156.toList) = false := bne_eq_false_iff_eq.mpr c5
    clear c5
    by_cases c6 : t153 = a0
    · rw [if_pos c6] at H
      have c6b0 : (t153 == a0) = true := beq_iff_eq.mpr c6
      have c6b1 : (t153 != a0) = false := bne_eq_false_iff_eq.mpr c6
      clear c6
      replace H := Option.bind_eq_some_iff.mp H
      obtain ⟨t157, A70, H⟩ := H
      replace H : (if t157 = 0 then (if t155 = (t152.size : Int) then ((addr_Kind.f a0).bind fun t158 => ((towroperef05_Kind.f a0).bind fun t159 => (if t158 = t159 then ((towropelaw05_live.f k).bind fun t160 => (some t160)) else (some false)))) else (some false)) else (some false)) = some r := H
      have A7 := Aside0.mk A70
      clear A70
      by_cases c8 : t157 = 0
      · rw [if_pos c8] at H
        have c8b0 : (t157 == 0) = true := beq_iff_eq.mpr c8
        have c8b1 : (t157 != 0) = false := bne_eq_false_iff_eq.mpr c8
        clear c8
        by_cases c9 : t155 = (t152.size : Int)
        · rw [if_pos c9] at H
          have c9b0 : (t155 == (t152.size : Int)) = true := beq_iff_eq.mpr c9
          have c9b1 : (t155 != (t152.size : Int)) = false := bne_eq_false_iff_eq.mpr c9
          clear c9
          replace H := Option.bind_eq_some_iff.mp H
          obtain ⟨t158, A100, H⟩ := H
          replace H : ((towroperef05_Kind.f a0).bind fun t159 => (if t158 = t159 then ((towropelaw05_live.f k).bind fun t160 => (some t160)) else (some false))) = some r := H
          have A10 := Aside0.mk A100
          clear A100
          replace H := Option.bind_eq_some_iff.mp H
          obtain ⟨t159, A110, H⟩ := H
          replace H : (if t158 = t159 then ((towropelaw05_live.f k).bind fun t160 => (some t160)) else (some false)) = some r := H
          have A11 := Aside0.mk A110
          clear A110
          by_cases c12 : t158 = t159
          · rw [if_pos c12] at H
            have c12b0 : (t158 == t159) = true := beq_iff_eq.mpr c12
            have c12b1 : (t158 != t159) = false := bne_eq_false_iff_eq.mpr c12
            clear c12
            replace H := Option.bind_eq_some_iff.mp H
            obtain ⟨t160, A130, H⟩ := H
            replace H : (some t160) = some r := H
            have A13 := Aside0.mk A130
            clear A130
            obtain rfl := Option.some.inj H
            go_enter Tryd.func4, Tryd.ntmps4
            go_wp2_with (first | ((with_reducible refine gate_callee (f := 17) rfl ?_); refine goesL_ (some 10) rfl rfl Tryd.func17 (by kernel_rfl) rfl #[.int .u32 a0] rfl (by (try simp only [List.map_toArray, List.map_cons, List.map_nil]); first | done | rfl | (simp only [List.length_drop, List.length_take]; rfl) | (go_simp; done) | (go_simp; omega)) ?_; (with_reducible refine (addr_Text.calls k a0 t152 _ A2.out (ht := (by first | exact HT.out | exact Go.Proofs.YtcebnaknodghcaaDoor.HItoa.Tab.below HT.out (by repeat (first | (with_reducible first | exact HB.out | apply below_alloc | apply pw_below_drewN | apply below_drew1) | exact HB.out))))).mono ?_); rintro e w14 ⟨rfl, hb⟩; refine ⟨_, rfl, ?_⟩; have n0_ := Aside0.mk (below_step (by repeat (first | (with_reducible first | exact HB.out | apply below_alloc | apply pw_below_drewN | apply below_drew1) | exact HB.out)) hb); clear HB; have HB := n0_; clear n0_; (try clear hb); (try clear hb2); (try clear hk); (try clear hi)) | ((with_reducible refine gate_callee (f := 18) rfl ?_); refine goesL_ (some 13) rfl rfl Tryd.func18 (by kernel_rfl) rfl #[.string t152] rfl (by (try simp only [List.map_toArray, List.map_cons, List.map_nil]); first | done | rfl | (simp only [List.length_drop, List.length_take]; rfl) | (go_simp; done) | (go_simp; omega)) ?_; (with_reducible refine (addr_Parse.calls k t152 t153 t154 t155 _ A3.out).mono ?_); rintro e w' ⟨rfl, ⟨nd, rfl⟩⟩; refine ⟨_, rfl, ?_⟩) | ((with_reducible refine gate_callee (f := 19) rfl ?_); refine goesL_ (some 19) rfl rfl Tryd.func19 (by kernel_rfl) rfl #[.int .u32 a0] rfl (by (try simp only [List.map_toArray, List.map_cons, List.map_nil]); first | done | rfl | (simp only [List.length_drop, List.length_take]; rfl) | (go_simp; done) | (go_simp; omega)) ?_; (with_reducible refine (towroperef05_Text.calls k a0 t156 _ A4.out).mono ?_); rintro e w15 ⟨rfl, hb⟩; refine ⟨_, rfl, ?_⟩; have n0_ := Aside0.mk (below_step (by repeat (first | (with_reducible first | exact HB.out | apply below_alloc | apply pw_below_drewN | apply below_drew1) | exact HB.out)) hb); clear HB; have HB := n0_; clear n0_; (try clear hb); (try clear hb2); (try clear hk); (try clear hi)) | (go_at_call 20; (with_reducible refine (towropelaw05_code.calls t154 t157 _ A7.out).mono ?_); rintro e w' ⟨rfl, ⟨nd, rfl⟩⟩) | (go_at_call 21; (with_reducible refine (addr_Kind.calls a0 t158 _ A10.out).mono ?_); rintro e w' ⟨rfl, ⟨nd, rfl⟩⟩) | (go_at_call 22; (with_reducible refine (towroperef05_Kind.calls a0 t159 _ A11.out).mono ?_); rintro e w' ⟨rfl, ⟨nd, rfl⟩⟩) | (go_at_call 23; (with_reducible refine (towropelaw05_live.calls k  t160 _ A13.out (ht := (by first | exact HT.out | exact Go.Proofs.YtcebnaknodghcaaDoor.HItoa.Tab.below HT.out (by repeat (first | (with_reducible first | exact HB.out | apply below_alloc | apply pw_below_drewN | apply below_drew1) | exact HB.out))))).mono ?_); rintro e w16 ⟨rfl, hb⟩; have n0_ := Aside0.mk (below_step (by repeat (first | (with_reducible first | exact HB.out | apply below_alloc | apply pw_below_drewN | apply below_drew1) | exact HB.out)) hb); clear HB; have HB := n0_; clear n0_; (try clear hb); (try clear hb2); (try clear hk); (try clear hi)))
            go_ret
            exact ⟨by first | rfl | (simp [errW_none, errW_some] <;> rfl) | (simp [*, errW_none, errW_some] <;> rfl), by repeat (first | (with_reducible first | exact HB.out | apply below_alloc | apply pw_below_drewN | apply below_drew1) | exact HB.out)⟩
          · rw [if_neg c12] at H
            have c12b0 : (t158 == t159) = false := beq_eq_false_iff_ne.mpr c12
            have c12b1 : (t158 != t159) = true := bne_iff_ne.mpr c12
            obtain rfl := Option.some.inj H
            go_enter Tryd.func4, Tryd.ntmps4
            go_wp2_with (first | ((with_reducible refine gate_callee (f := 17) rfl ?_); refine goesL_ (some 10) rfl rfl Tryd.func17 (by kernel_rfl) rfl #[.int .u32 a0] rfl (by (try simp only [List.map_toArray, List.map_cons, List.map_nil]); first | done | rfl | (simp only [List.length_drop, List.length_take]; rfl) | (go_simp; done) | (go_simp; omega)) ?_; (with_reducible refine (addr_Text.calls k a0 t152 _ A2.out (ht := (by first | exact HT.out | exact Go.Proofs.YtcebnaknodghcaaDoor.HItoa.Tab.below HT.out (by repeat (first | (with_reducible first | exact HB.out | apply below_alloc | apply pw_below_drewN | apply below_drew1) | exact HB.out))))).mono ?_); rintro e w17 ⟨rfl, hb⟩; refine ⟨_, rfl, ?_⟩; have n0_ := Aside0.mk (below_step (by repeat (first | (with_reducible first | exact HB.out | apply below_alloc | apply pw_below_drewN | apply below_drew1) | exact HB.out)) hb); clear HB; have HB := n0_; clear n0_; (try clear hb); (try clear hb2); (try clear hk); (try clear hi)) | ((with_reducible refine gate_callee (f := 18) rfl ?_); refine goesL_ (some 13) rfl rfl Tryd.func18 (by kernel_rfl) rfl #[.string t152] rfl (by (try simp only [List.map_toArray, List.map_cons, List.map_nil]); first | done | rfl | (simp only [List.length_drop, List.length_take]; rfl) | (go_simp; done) | (go_simp; omega)) ?_; (with_reducible refine (addr_Parse.calls k t152 t153 t154 t155 _ A3.out).mono ?_); rintro e w' ⟨rfl, ⟨nd, rfl⟩⟩; refine ⟨_, rfl, ?_⟩) | ((with_reducible refine gate_callee (f := 19) rfl ?_); refine goesL_ (some 19) rfl rfl Tryd.func19 (by kernel_rfl) rfl #[.int .u32 a0] rfl (by (try simp only [List.map_toArray, List.map_cons, List.map_nil]); first | done | rfl | (simp only [List.length_drop, List.length_take]; rfl) | (go_simp; done) | (go_simp; omega)) ?_; (with_reducible refine (towroperef05_Text.calls k a0 t156 _ A4.out).mono ?_); rintro e w18 ⟨rfl, hb⟩; refine ⟨_, rfl, ?_⟩; have n0_ := Aside0.mk (below_step (by repeat (first | (with_reducible first | exact HB.out | apply below_alloc | apply pw_below_drewN | apply below_drew1) | exact HB.out)) hb); clear HB; have HB := n0_; clear n0_; (try clear hb); (try clear hb2); (try clear hk); (try clear hi)) | (go_at_call 20; (with_reducible refine (towropelaw05_code.calls t154 t157 _ A7.out).mono ?_); rintro e w' ⟨rfl, ⟨nd, rfl⟩⟩) | (go_at_call 21; (with_reducible refine (addr_Kind.calls a0 t158 _ A10.out).mono ?_); rintro e w' ⟨rfl, ⟨nd, rfl⟩⟩) | (go_at_call 22; (with_reducible refine (towroperef05_Kind.calls a0 t159 _ A11.out).mono ?_); rintro e w' ⟨rfl, ⟨nd, rfl⟩⟩))
            go_ret
            exact ⟨by first | rfl | (simp [errW_none, errW_some] <;> rfl) | (simp [*, errW_none, errW_some] <;> rfl), by repeat (first | (with_reducible first | exact HB.out | apply below_alloc | apply pw_below_drewN | apply below_drew1) | exact HB.out)⟩
        · rw [if_neg c9] at H
          have c9b0 : (t155 == (t152.size : Int)) = false := beq_eq_false_iff_ne.mpr c9
          have c9b1 : (t155 != (t152.size : Int)) = true := bne_iff_ne.mpr c9
          obtain rfl := Option.some.inj H
          go_enter Tryd.func4, Tryd.ntmps4
          go_wp2_with (first | ((with_reducible refine gate_callee (f := 17) rfl ?_); refine goesL_ (some 10) rfl rfl Tryd.func17 (by kernel_rfl) rfl #[.int .u32 a0] rfl (by (try simp only [List.map_toArray, List.map_cons, List.map_nil]); first | done | rfl | (simp only [List.length_drop, List.length_take]; rfl) | (go_simp; done) | (go_simp; omega)) ?_; (with_reducible refine (addr_Text.calls k a0 t152 _ A2.out (ht := (by first | exact HT.out | exact Go.Proofs.YtcebnaknodghcaaDoor.HItoa.Tab.below HT.out (by repeat (first | (with_reducible first | exact HB.out | apply below_alloc | apply pw_below_drewN | apply below_drew1) | exact HB.out))))).mono ?_); rintro e w19 ⟨rfl, hb⟩; refine ⟨_, rfl, ?_⟩; have n0_ := Aside0.mk (below_step (by repeat (first | (with_reducible first | exact HB.out | apply below_alloc | apply pw_below_drewN | apply below_drew1) | exact HB.out)) hb); clear HB; have HB := n0_; clear n0_; (try clear hb); (try clear hb2); (try clear hk); (try clear hi)) | ((with_reducible refine gate_callee (f := 18) rfl ?_); refine goesL_ (some 13) rfl rfl Tryd.func18 (by kernel_rfl) rfl #[.string t152] rfl (by (try simp only [List.map_toArray, List.map_cons, List.map_nil]); first | done | rfl | (simp only [List.length_drop, List.length_take]; rfl) | (go_simp; done) | (go_simp; omega)) ?_; (with_reducible refine (addr_Parse.calls k t152 t153 t154 t155 _ A3.out).mono ?_); rintro e w' ⟨rfl, ⟨nd, rfl⟩⟩; refine ⟨_, rfl, ?_⟩) | ((with_reducible refine gate_callee (f := 19) rfl ?_); refine goesL_ (some 19) rfl rfl Tryd.func19 (by kernel_rfl) rfl #[.int .u32 a0] rfl (by (try simp only [List.map_toArray, List.map_cons, List.map_nil]); first | done | rfl | (simp only [List.length_drop, List.length_take]; rfl) | (go_simp; done) | (go_simp; omega)) ?_; (with_reducible refine (towroperef05_Text.calls k a0 t156 _ A4.out).mono ?_); rintro e w20 ⟨rfl, hb⟩; refine ⟨_, rfl, ?_⟩; have n0_ := Aside0.mk (below_step (by repeat (first | (with_reducible first | exact HB.out | apply below_alloc | apply pw_below_drewN | apply below_drew1) | exact HB.out)) hb); clear HB; have HB := n0_; clear n0_; (try clear hb); (try clear hb2); (try clear hk); (try clear hi)) | (go_at_call 20; (with_reducible refine (towropelaw05_code.calls t154 t157 _ A7.out).mono ?_); rintro e w' ⟨rfl, ⟨nd, rfl⟩⟩))
          go_ret
          exact ⟨by first | rfl | (simp [errW_none, errW_some] <;> rfl) | (simp [*, errW_none, errW_some] <;> rfl), by repeat (first | (with_reducible first | exact HB.out | apply below_alloc | apply pw_below_drewN | apply below_drew1) | exact HB.out)⟩
      · rw [if_neg c8] at H
        have c8b0 : (t157 == 0) = false := beq_eq_false_iff_ne.mpr c8
        have c8b1 : (t157 != 0) = true := bne_iff_ne.mpr c8
        obtain rfl := Option.some.inj H
        go_enter Tryd.func4, Tryd.ntmps4
        go_wp2_with (first | ((with_reducible refine gate_callee (f := 17) rfl ?_); refine goesL_ (some 10) rfl rfl Tryd.func17 (by kernel_rfl) rfl #[.int .u32 a0] rfl (by (try simp only [List.map_toArray, List.map_cons, List.map_nil]); first | done | rfl | (simp only [List.length_drop, List.length_take]; rfl) | (go_simp; done) | (go_simp; omega)) ?_; (with_reducible refine (addr_Text.calls k a0 t152 _ A2.out (ht := (by first | exact HT.out | exact Go.Proofs.YtcebnaknodghcaaDoor.HItoa.Tab.below HT.out (by repeat (first | (with_reducible first | exact HB.out | apply below_alloc | apply pw_below_drewN | apply below_drew1) | exact HB.out))))).mono ?_); rintro e w21 ⟨rfl, hb⟩; refine ⟨_, rfl, ?_⟩; have n0_ := Aside0.mk (below_step (by repeat (first | (with_reducible first | exact HB.out | apply below_alloc | apply pw_below_drewN | apply below_drew1) | exact HB.out)) hb); clear HB; have HB := n0_; clear n0_; (try clear hb); (try clear hb2); (try clear hk); (try clear hi)) | ((with_reducible refine gate_callee (f := 18) rfl ?_); refine goesL_ (some 13) rfl rfl Tryd.func18 (by kernel_rfl) rfl #[.string t152] rfl (by (try simp only [List.map_toArray, List.map_cons, List.map_nil]); first | done | rfl | (simp only [List.length_drop, List.length_take]; rfl) | (go_simp; done) | (go_simp; omega)) ?_; (with_reducible refine (addr_Parse.calls k t152 t153 t154 t155 _ A3.out).mono ?_); rintro e w' ⟨rfl, ⟨nd, rfl⟩⟩; refine ⟨_, rfl, ?_⟩) | ((with_reducible refine gate_callee (f := 19) rfl ?_); refine goesL_ (some 19) rfl rfl Tryd.func19 (by kernel_rfl) rfl #[.int .u32 a0] rfl (by (try simp only [List.map_toArray, List.map_cons, List.map_nil]); first | done | rfl | (simp only [List.length_drop, List.length_take]; rfl) | (go_simp; done) | (go_simp; omega)) ?_; (with_reducible refine (towroperef05_Text.calls k a0 t156 _ A4.out).mono ?_); rintro e w22 ⟨rfl, hb⟩; refine ⟨_, rfl, ?_⟩; have n0_ := Aside0.mk (below_step (by repeat (first | (with_reducible first | exact HB.out | apply below_alloc | apply pw_below_drewN | apply below_drew1) | exact HB.out)) hb); clear HB; have HB := n0_; clear n0_; (try clear hb); (try clear hb2); (try clear hk); (try clear hi)) | (go_at_call 20; (with_reducible refine (towropelaw05_code.calls t154 t157 _ A7.out).mono ?_); rintro e w' ⟨rfl, ⟨nd, rfl⟩⟩))
        go_ret
        exact ⟨by first | rfl | (simp [errW_none, errW_some] <;> rfl) | (simp [*, errW_none, errW_some] <;> rfl), by repeat (first | (with_reducible first | exact HB.out | apply below_alloc | apply pw_below_drewN | apply below_drew1) | exact HB.out)⟩
    · rw [if_neg c6] at H
      have c6b0 : (t153 == a0) = false := beq_eq_false_iff_ne.mpr c6
      have c6b1 : (t153 != a0) = true := bne_iff_ne.mpr c6
      obtain rfl := Option.some.inj H
      go_enter Tryd.func4, Tryd.ntmps4
      go_wp2_with (first | ((with_reducible refine gate_callee (f := 17) rfl ?_); refine goesL_ (some 10) rfl rfl Tryd.func17 (by kernel_rfl) rfl #[.int .u32 a0] rfl (by (try simp only [List.map_toArray, List.map_cons, List.map_nil]); first | done | rfl | (simp only [List.length_drop, List.length_take]; rfl) | (go_simp; done) | (go_simp; omega)) ?_; (with_reducible refine (addr_Text.calls k a0 t152 _ A2.out (ht := (by first | exact HT.out | exact Go.Proofs.YtcebnaknodghcaaDoor.HItoa.Tab.below HT.out (by repeat (first | (with_reducible first | exact HB.out | apply below_alloc | apply pw_below_drewN | apply below_drew1) | exact HB.out))))).mono ?_); rintro e w23 ⟨rfl, hb⟩; refine ⟨_, rfl, ?_⟩; have n0_ := Aside0.mk (below_step (by repeat (first | (with_reducible first | exact HB.out | apply below_alloc | apply pw_below_drewN | apply below_drew1) | exact HB.out)) hb); clear HB; have HB := n0_; clear n0_; (try clear hb); (try clear hb2); (try clear hk); (try clear hi)) | ((with_reducible refine gate_callee (f := 18) rfl ?_); refine goesL_ (some 13) rfl rfl Tryd.func18 (by kernel_rfl) rfl #[.string t152] rfl (by (try simp only [List.map_toArray, List.map_cons, List.map_nil]); first | done | rfl | (simp only [List.length_drop, List.length_take]; rfl) | (go_simp; done) | (go_simp; omega)) ?_; (with_reducible refine (addr_Parse.calls k t152 t153 t154 t155 _ A3.out).mono ?_); rintro e w' ⟨rfl, ⟨nd, rfl⟩⟩; refine ⟨_, rfl, ?_⟩) | ((with_reducible refine gate_callee (f := 19) rfl ?_); refine goesL_ (some 19) rfl rfl Tryd.func19 (by kernel_rfl) rfl #[.int .u32 a0] rfl (by (try simp only [List.map_toArray, List.map_cons, List.map_nil]); first | done | rfl | (simp only [List.length_drop, List.length_take]; rfl) | (go_simp; done) | (go_simp; omega)) ?_; (with_reducible refine (towroperef05_Text.calls k a0 t156 _ A4.out).mono ?_); rintro e w24 ⟨rfl, hb⟩; refine ⟨_, rfl, ?_⟩; have n0_ := Aside0.mk (below_step (by repeat (first | (with_reducible first | exact HB.out | apply below_alloc | apply pw_below_drewN | apply below_drew1) | exact HB.out)) hb); clear HB; have HB := n0_; clear n0_; (try clear hb); (try clear hb2); (try clear hk); (try clear hi)))
      go_ret
      exact ⟨by first | rfl | (simp [errW_none, errW_some] <;> rfl) | (simp [*, errW_none, errW_some] <;> rfl), by repeat (first | (with_reducible first | exact HB.out | apply below_alloc | apply pw_below_drewN | apply below_drew1) | exact HB.out)⟩
  · rw [if_neg c5] at H
    have c5b0 : (t152.toList == t156.toList) = false := beq_eq_false_iff_ne.mpr c5
    have c5b1 : (t152.toList != t156.toList) = true := bne_iff_ne.mpr c5
    obtain rfl := Option.some.inj H
    go_enter Tryd.func4, Tryd.ntmps4
    go_wp2_with (first | ((with_reducible refine gate_callee (f := 17) rfl ?_); refine goesL_ (some 10) rfl rfl Tryd.func17 (by kernel_rfl) rfl #[.int .u32 a0] rfl (by (try simp only [List.map_toArray, List.map_cons, List.map_nil]); first | done | rfl | (simp only [List.length_drop, List.length_take]; rfl) | (go_simp; done) | (go_simp; omega)) ?_; (with_reducible refine (addr_Text.calls k a0 t152 _ A2.out (ht := (by first | exact HT.out | exact Go.Proofs.YtcebnaknodghcaaDoor.HItoa.Tab.below HT.out (by repeat (first | (with_reducible first | exact HB.out | apply below_alloc | apply pw_below_drewN | apply below_drew1) | exact HB.out))))).mono ?_); rintro e w25 ⟨rfl, hb⟩; refine ⟨_, rfl, ?_⟩; have n0_ := Aside0.mk (below_step (by repeat (first | (with_reducible first | exact HB.out | apply below_alloc | apply pw_below_drewN | apply below_drew1) | exact HB.out)) hb); clear HB; have HB := n0_; clear n0_; (try clear hb); (try clear hb2); (try clear hk); (try clear hi)) | ((with_reducible refine gate_callee (f := 18) rfl ?_); refine goesL_ (some 13) rfl rfl Tryd.func18 (by kernel_rfl) rfl #[.string t152] rfl (by (try simp only [List.map_toArray, List.map_cons, List.map_nil]); first | done | rfl | (simp only [List.length_drop, List.length_take]; rfl) | (go_simp; done) | (go_simp; omega)) ?_; (with_reducible refine (addr_Parse.calls k t152 t153 t154 t155 _ A3.out).mono ?_); rintro e w' ⟨rfl, ⟨nd, rfl⟩⟩; refine ⟨_, rfl, ?_⟩) | ((with_reducible refine gate_callee (f := 19) rfl ?_); refine goesL_ (some 19) rfl rfl Tryd.func19 (by kernel_rfl) rfl #[.int .u32 a0] rfl (by (try simp only [List.map_toArray, List.map_cons, List.map_nil]); first | done | rfl | (simp only [List.length_drop, List.length_take]; rfl) | (go_simp; done) | (go_simp; omega)) ?_; (with_reducible refine (towroperef05_Text.calls k a0 t156 _ A4.out).mono ?_); rintro e w26 ⟨rfl, hb⟩; refine ⟨_, rfl, ?_⟩; have n0_ := Aside0.mk (below_step (by repeat (first | (with_reducible first | exact HB.out | apply below_alloc | apply pw_below_drewN | apply below_drew1) | exact HB.out)) hb); clear HB; have HB := n0_; clear n0_; (try clear hb); (try clear hb2); (try clear hk); (try clear hi)))
    go_ret
    exact ⟨by first | rfl | (simp [errW_none, errW_some] <;> rfl) | (simp [*, errW_none, errW_some] <;> rfl), by repeat (first | (with_reducible first | exact HB.out | apply below_alloc | apply pw_below_drewN | apply below_drew1) | exact HB.out)⟩

/-- THE ONE PURE STATEMENT of towropelaw05_AddrTexts: yours. -/
def towropelaw05_AddrTexts.Pure : Prop := ∀ (a0 : Int), (Lit.int .u32 a0).wf = true → ∃ k, towropelaw05_AddrTexts.f k a0 = some true
theorem towropelaw05_AddrTexts.walk : True := trivial


/-! ### addr_NetText: function 33 -/
def addr_NetText.f (k : Nat) (a0 : Int) (a1 : Int) : Option (ByteArray × Int) := (addr_Net.f a0 a1).bind fun bt161 => (if bt161.2 = 0 then ((addr_Text.f k bt161.1).bind fun t163 => (if t163.size + 1 ≤ 9223372036854775807 then ((strconv_Itoa_62.f a1).bind fun t164 => (if (t163 ++ (⟨#[47]⟩ : ByteArray)).size + t164.size ≤ 9223372036854775807 then (some ((t163 ++ (⟨#[47]⟩ : ByteArray)) ++ t164, 0)) else (none))) else (none))) else (some ((⟨#[]⟩ : ByteArray), bt161.2)))
theorem addr_NetText.mono : ∀ a0 a1 k, LeO (addr_NetText.f k a0 a1) (addr_NetText.f (k + 1) a0 a1) := by
  intro a0 a1 k
  unfold addr_NetText.f
  repeat' first
      | (with_reducible exact addr_Text.mono _ _)
      | (with_reducible exact LeO.refl _)
      | (with_reducible exact LeO.none _)
      | (with_reducible refine LeO.ite ?_ ?_)
      | (with_reducible refine LeO.bind ?_ (fun _ => ?_))
      | exact addr_Text.mono _ _
      | exact LeO.none _
      | refine LeO.ite ?_ ?_
      | refine LeO.bind ?_ (fun _ => ?_)
set_option maxHeartbeats 8000000 in
set_option maxRecDepth 100000 in
theorem addr_NetText.calls (k : Nat) (a0 : Int) (a1 : Int) (r1 : ByteArray) (r2 : Int) (w : World) (ht : Go.Proofs.YtcebnaknodghcaaDoor.HItoa.Tab w) (h : addr_NetText.f k a0 a1 = some (r1, r2)) :
    Calls Tryd.prog 33 #[.int .u32 a0, .int .i64 a1] w fun e w' => e = .returned (.tuple #[.string r1, .int .i64 r2]) ∧ Below w.heap.size w w' := by
  have HT := Aside0.mk ht
  clear ht
  have HB := Aside0.mk (Below.refl w.heap.size w)
  have H : ((addr_Net.f a0 a1).bind fun bt161 => (if bt161.2 = 0 then ((addr_Text.f k bt161.1).bind fun t163 => (if t163.size + 1 ≤ 9223372036854775807 then ((strconv_Itoa_62.f a1).bind fun t164 => (if (t163 ++ (⟨#[47]⟩ : ByteArray)).size + t164.size ≤ 9223372036854775807 then (some ((t163 ++ (⟨#[47]⟩ : ByteArray)) ++ t164, 0)) else (none))) else (none))) else (some ((⟨#[]⟩ : ByteArray), bt161.2)))) = some (r1, r2) := h
  clear h
  replace H := Option.bind_eq_some_iff.mp H
  obtain ⟨⟨t161, t162⟩, A30, H⟩ := H
  replace H : (if t162 = 0 then ((addr_Text.f k t161).bind fun t163 => (if t163.size + 1 ≤ 9223372036854775807 then ((strconv_Itoa_62.f a1).bind fun t164 => (if (t163 ++ (⟨#[47]⟩ : ByteArray)).size + t164.size ≤ 9223372036854775807 then (some ((t163 ++ (⟨#[47]⟩ : ByteArray)) ++ t164, 0)) else (none))) else (none))) else (some ((⟨#[]⟩ : ByteArray), t162))) = some (r1, r2) := H
  have A3 := Aside0.mk A30
  clear A30
  by_cases c4 : t162 = 0
  · rw [if_pos c4] at H
    have c4b0 : (t162 == 0) = true := beq_iff_eq.mpr c4
    have c4b1 : (t162 != 0) = false := bne_eq_false_iff_eq.mpr c4
    clear c4
    replace H := Option.bind_eq_some_iff.mp H
    obtain ⟨t163, A50, H⟩ := H
    replace H : (if t163.size + 1 ≤ 9223372036854775807 then ((strconv_Itoa_62.f a1).bind fun t164 => (if (t163 ++ (⟨#[47]⟩ : ByteArray)).size + t164.size ≤ 9223372036854775807 then (some ((t163 ++ (⟨#[47]⟩ : ByteArray)) ++ t164, 0)) else (none))) else (none)) = some (r1, r2) := H
    have A5 := Aside0.mk A50
    clear A50
    by_cases c6 : t163.size + 1 ≤ 9223372036854775807
    · rw [if_pos c6] at H
      have c6b0 := eq_true c6
      have c6b1 : decide (t163.size + 1 ≤ 9223372036854775807) = true := decide_eq_true c6
      try have c6b2 : (9223372036854775807 < t163.size + 1) = False := eq_false (Nat.not_lt.2 c6)
      replace H := Option.bind_eq_some_iff.mp H
      obtain ⟨t164, A70, H⟩ := H
      replace H : (if (t163 ++ (⟨#[47]⟩ : ByteArray)).size + t164.size ≤ 9223372036854775807 then (some ((t163 ++ (⟨#[47]⟩ : ByteArray)) ++ t164, 0)) else (none)) = some (r1, r2) := H
      have A7 := Aside0.mk A70
      clear A70
      by_cases c8 : (t163 ++ (⟨#[47]⟩ : ByteArray)).size + t164.size ≤ 9223372036854775807
      · rw [if_pos c8] at H
        have c8b0 := eq_true c8
        have c8b1 : decide ((t163 ++ (⟨#[47]⟩ : ByteArray)).size + t164.size ≤ 9223372036854775807) = true := decide_eq_true c8
        try have c8b2 : (9223372036854775807 < (t163 ++ (⟨#[47]⟩ : ByteArray)).size + t164.size) = False := eq_false (Nat.not_lt.2 c8)
        try have c8b2z : (9223372036854775807 < t163.size + 1 + t164.size) = False := eq_false (Nat.not_lt.2 (by have q_ := c8; (try simp only [ByteArray.size_append] at q_); exact q_))
        simp only [Option.some.injEq, Prod.mk.injEq] at H
        obtain ⟨rfl, rfl⟩ := H
        go_enter Tryd.func33, Tryd.ntmps33
        go_wp2_with (first | ((with_reducible refine gate_callee (f := 24) rfl ?_); refine goesL_ (some 11) rfl rfl Tryd.func24 (by kernel_rfl) rfl #[.int .u32 a0, .int .i64 a1] rfl (by (try simp only [List.map_toArray, List.map_cons, List.map_nil]); first | done | rfl | (simp only [List.length_drop, List.length_take]; rfl) | (go_simp; done) | (go_simp; omega)) ?_; (with_reducible refine (addr_Net.calls a0 a1 t161 t162 _ A3.out).mono ?_); rintro e w' ⟨rfl, ⟨nd, rfl⟩⟩; refine ⟨_, rfl, ?_⟩) | ((with_reducible refine gate_callee (f := 17) rfl ?_); refine goesL_ (some 18) rfl rfl Tryd.func17 (by kernel_rfl) rfl #[.int .u32 t161] rfl (by (try simp only [List.map_toArray, List.map_cons, List.map_nil]); first | done | rfl | (simp only [List.length_drop, List.length_take]; rfl) | (go_simp; done) | (go_simp; omega)) ?_; (with_reducible refine (addr_Text.calls k t161 t163 _ A5.out (ht := (by first | exact HT.out | exact Go.Proofs.YtcebnaknodghcaaDoor.HItoa.Tab.below HT.out (by repeat (first | (with_reducible first | exact HB.out | apply below_alloc | apply pw_below_drewN | apply below_drew1) | exact HB.out))))).mono ?_); rintro e w9 ⟨rfl, hb⟩; refine ⟨_, rfl, ?_⟩; have n0_ := Aside0.mk (below_step (by repeat (first | (with_reducible first | exact HB.out | apply below_alloc | apply pw_below_drewN | apply below_drew1) | exact HB.out)) hb); clear HB; have HB := n0_; clear n0_; (try clear hb); (try clear hb2); (try clear hk); (try clear hi)) | ((with_reducible refine gate_callee (f := 62) rfl ?_); refine goesL_ (some 21) rfl rfl Tryd.func62 (by kernel_rfl) rfl #[.int .i64 a1] rfl (by (try simp only [List.map_toArray, List.map_cons, List.map_nil]); first | done | rfl | (simp only [List.length_drop, List.length_take]; rfl) | (go_simp; done) | (go_simp; omega)) ?_; (with_reducible refine (strconv_Itoa_62.calls a1 t164 _ A7.out (ht := (by first | exact HT.out | exact Go.Proofs.YtcebnaknodghcaaDoor.HItoa.Tab.below HT.out (by repeat (first | (with_reducible first | exact HB.out | apply below_alloc | apply pw_below_drewN | apply below_drew1) | exact HB.out))))).mono ?_); rintro e w10 ⟨rfl, hb⟩; refine ⟨_, rfl, ?_⟩; have n0_ := Aside0.mk (below_step (by repeat (first | (with_reducible first | exact HB.out | apply below_alloc | apply pw_below_drewN | apply below_drew1) | exact HB.out)) hb); clear HB; have HB := n0_; clear n0_; (try clear hb); (try clear hb2); (try clear hk); (try clear hi)))
        go_ret2
        exact ⟨by first | rfl | (simp [errW_none, errW_some] <;> rfl) | (simp [*, errW_none, errW_some] <;> rfl), by repeat (first | (with_reducible first | exact HB.out | apply below_alloc | apply pw_below_drewN | apply below_drew1) | exact HB.out)⟩
      · rw [if_neg c8] at H
        exact absurd H (by simp)
    · rw [if_neg c6] at H
      exact absurd H (by simp)
  · rw [if_neg c4] at H
    have c4b0 : (t162 == 0) = false := beq_eq_false_iff_ne.mpr c4
    have c4b1 : (t162 != 0) = true := bne_iff_ne.mpr c4
    simp only [Option.some.injEq, Prod.mk.injEq] at H
    obtain ⟨rfl, rfl⟩ := H
    go_enter Tryd.func33, Tryd.ntmps33
    go_wp2_with (first | ((with_reducible refine gate_callee (f := 24) rfl ?_); refine goesL_ (some 11) rfl rfl Tryd.func24 (by kernel_rfl) rfl #[.int .u32 a0, .int .i64 a1] rfl (by (try simp only [List.map_toArray, List.map_cons, List.map_nil]); first | done | rfl | (simp only [List.length_drop, List.length_take]; rfl) | (go_simp; done) | (go_simp; omega)) ?_; (with_reducible refine (addr_Net.calls a0 a1 t161 t162 _ A3.out).mono ?_); rintro e w' ⟨rfl, ⟨nd, rfl⟩⟩; refine ⟨_, rfl, ?_⟩))
    go_ret2
    exact ⟨by first | rfl | (simp [errW_none, errW_some] <;> rfl) | (simp [*, errW_none, errW_some] <;> rfl), by repeat (first | (with_reducible first | exact HB.out | apply below_alloc | apply pw_below_drewN | apply below_drew1) | exact HB.out)⟩

end Go.Proofs.YtcebnaknodghcaaDoor.PAddr
