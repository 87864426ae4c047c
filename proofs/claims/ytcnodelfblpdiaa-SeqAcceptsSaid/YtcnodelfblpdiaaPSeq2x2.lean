-- Laid by a program of this session (wip/tools/mk.py) over the kit's print: functions, contracts, walks; not written by hand, not trusted: Lean checks it.
import Derived.Test.YtcnodelfblpdiaaPSeq2x0
import Derived.Test.YtcnodelfblpdiaaPSeq2x1
namespace Go.Proofs.Ytcnodelfblpdiaa.PSeq2
open Go.RowKit Go.Proofs.YtcnodelfblpdiaaW.PrintWords Go.Proofs.YtcnodelfblpdiaaW.PrintLast Go.Proofs.YtcnodelfblpdiaaW.PrintMore
attribute [local go_sem] max2_int min2_int max_two min_two max_three min_three max_four min_four   -- for this text's walks alone
set_option linter.unusedVariables false
set_option linter.unusedSimpArgs false

/-! ### towropelaw03_SeqLaws: function 9 -/
def towropelaw03_SeqLaws.j0 : Nat → Int → Int → Int → Int → Bool → Option (Bool)
  | 0, _, _, _, _, _ => none
  | k + 1, x0, x1, x2, x3, x53 => if x53 = true then (some false) else ((seq_Trim.f x0 (wrap64 (x2)) x1 (wrap64 (x3))).bind fun bt128 => (if bt128.1 = bt128.2 then ((towropelaw03_live.f).bind fun t130 => (some t130)) else ((seq_Add.f x0 bt128.1).bind fun t131 => ((seq_Accept.f t131 (wrap64 (bt128.2 - bt128.1)) x1 (wrap64 (x3))).bind fun t132 => (if t132 = true then ((towropelaw03_live.f).bind fun t133 => (some t133)) else (some false))))))
def towropelaw03_SeqLaws.f (k : Nat) (a0 : Int) (a1 : Int) (a2 : Int) (a3 : Int) : Option (Bool) := (seq_Diff.f a0 a1).bind fun t120 => ((seq_Diff.f a1 a0).bind fun t121 => (if (wrap64 (t120 + t121)) = 0 then ((seq_Add.f a1 t120).bind fun t122 => (if t122 = a0 then ((seq_Less.f a0 a1).bind fun t123 => (if t123 = true then ((seq_Less.f a1 a0).bind fun t124 => (if t124 = true then (towropelaw03_SeqLaws.j0 k a0 a1 a2 a3 (t120 != t121)) else (towropelaw03_SeqLaws.j0 k a0 a1 a2 a3 false))) else (towropelaw03_SeqLaws.j0 k a0 a1 a2 a3 false))) else (towropelaw03_SeqLaws.j0 k a0 a1 a2 a3 true))) else (if t120 = (-2147483648) then (if t121 = t120 then ((seq_Add.f a1 t120).bind fun t125 => (if t125 = a0 then ((seq_Less.f a0 a1).bind fun t126 => (if t126 = true then ((seq_Less.f a1 a0).bind fun t127 => (if t127 = true then (towropelaw03_SeqLaws.j0 k a0 a1 a2 a3 (t120 != t121)) else (towropelaw03_SeqLaws.j0 k a0 a1 a2 a3 false))) else (towropelaw03_SeqLaws.j0 k a0 a1 a2 a3 false))) else (towropelaw03_SeqLaws.j0 k a0 a1 a2 a3 true))) else (towropelaw03_SeqLaws.j0 k a0 a1 a2 a3 true)) else (towropelaw03_SeqLaws.j0 k a0 a1 a2 a3 true))))
theorem towropelaw03_SeqLaws.mono_l : ∀ k, (∀ y0 y1 y2 y3 y4, LeO (towropelaw03_SeqLaws.j0 k y0 y1 y2 y3 y4) (towropelaw03_SeqLaws.j0 (k + 1) y0 y1 y2 y3 y4))
  | 0 => fun _ _ _ _ _ r h => by simp [towropelaw03_SeqLaws.j0] at h
  | k + 1 => by
    have ih0 := towropelaw03_SeqLaws.mono_l k
    · intro y0 y1 y2 y3 y4
      unfold towropelaw03_SeqLaws.j0
      repeat' first
      | (with_reducible exact ih0 _ _ _ _ _)
      | (with_reducible exact LeO.refl _)
      | (with_reducible exact LeO.none _)
      | (with_reducible refine LeO.ite ?_ ?_)
      | (with_reducible refine LeO.bind ?_ (fun _ => ?_))
      | exact ih0 _ _ _ _ _
      | exact LeO.none _
      | refine LeO.ite ?_ ?_
      | refine LeO.bind ?_ (fun _ => ?_)
theorem towropelaw03_SeqLaws.mono : ∀ a0 a1 a2 a3 k, LeO (towropelaw03_SeqLaws.f k a0 a1 a2 a3) (towropelaw03_SeqLaws.f (k + 1) a0 a1 a2 a3) := by
  intro a0 a1 a2 a3 k
  have ih0 := towropelaw03_SeqLaws.mono_l k
  unfold towropelaw03_SeqLaws.f
  repeat' first
      | (with_reducible exact ih0 _ _ _ _ _)
      | (with_reducible exact LeO.refl _)
      | (with_reducible exact LeO.none _)
      | (with_reducible refine LeO.ite ?_ ?_)
      | (with_reducible refine LeO.bind ?_ (fun _ => ?_))
      | exact ih0 _ _ _ _ _
      | exact LeO.none _
      | refine LeO.ite ?_ ?_
      | refine LeO.bind ?_ (fun _ => ?_)
set_option maxHeartbeats 8000000 in
set_option maxRecDepth 100000 in
theorem towropelaw03_SeqLaws.calls (k : Nat) (a0 : Int) (a1 : Int) (a2 : Int) (a3 : Int) (r : Bool) (w : World) (h : towropelaw03_SeqLaws.f k a0 a1 a2 a3 = some r) :
    Calls Try.prog 9 #[.int .u32 a0, .int .u32 a1, .int .u16 a2, .int .u16 a3] w fun e w' => e = .returned (.bool r) ∧ Below w.heap.size w w' := by
  have HB := Aside0.mk (Below.refl w.heap.size w)
  have H : ((seq_Diff.f a0 a1).bind fun t120 => ((seq_Diff.f a1 a0).bind fun t121 => (if (wrap64 (t120 + t121)) = 0 then ((seq_Add.f a1 t120).bind fun t122 => (if t122 = a0 then ((seq_Less.f a0 a1).bind fun t123 => (if t123 = true then ((seq_Less.f a1 a0).bind fun t124 => (if t124 = true then (towropelaw03_SeqLaws.j0 k a0 a1 a2 a3 (t120 != t121)) else (towropelaw03_SeqLaws.j0 k a0 a1 a2 a3 false))) else (towropelaw03_SeqLaws.j0 k a0 a1 a2 a3 false))) else (towropelaw03_SeqLaws.j0 k a0 a1 a2 a3 true))) else (if t120 = (-2147483648) then (if t121 = t120 then ((seq_Add.f a1 t120).bind fun t125 => (if t125 = a0 then ((seq_Less.f a0 a1).bind fun t126 => (if t126 = true then ((seq_Less.f a1 a0).bind fun t127 => (if t127 = true then (towropelaw03_SeqLaws.j0 k a0 a1 a2 a3 (t120 != t121)) else (towropelaw03_SeqLaws.j0 k a0 a1 a2 a3 false))) else (towropelaw03_SeqLaws.j0 k a0 a1 a2 a3 false))) else (towropelaw03_SeqLaws.j0 k a0 a1 a2 a3 true))) else (towropelaw03_SeqLaws.j0 k a0 a1 a2 a3 true)) else (towropelaw03_SeqLaws.j0 k a0 a1 a2 a3 true))))) = some r := h
  clear h
  replace H := Option.bind_eq_some_iff.mp H
  obtain ⟨t120, A50, H⟩ := H
  replace H : ((seq_Diff.f a1 a0).bind fun t121 => (if (wrap64 (t120 + t121)) = 0 then ((seq_Add.f a1 t120).bind fun t122 => (if t122 = a0 then ((seq_Less.f a0 a1).bind fun t123 => (if t123 = true then ((seq_Less.f a1 a0).bind fun t124 => (if t124 = true then (towropelaw03_SeqLaws.j0 k a0 a1 a2 a3 (t120 != t121)) else (towropelaw03_SeqLaws.j0 k a0 a1 a2 a3 false))) else (towropelaw03_SeqLaws.j0 k a0 a1 a2 a3 false))) else (towropelaw03_SeqLaws.j0 k a0 a1 a2 a3 true))) else (if t120 = (-2147483648) then (if t121 = t120 then ((seq_Add.f a1 t120).bind fun t125 => (if t125 = a0 then ((seq_Less.f a0 a1).bind fun t126 => (if t126 = true then ((seq_Less.f a1 a0).bind fun t127 => (if t127 = true then (towropelaw03_SeqLaws.j0 k a0 a1 a2 a3 (t120 != t121)) else (towropelaw03_SeqLaws.j0 k a0 a1 a2 a3 false))) else (towropelaw03_SeqLaws.j0 k a0 a1 a2 a3 false))) else (towropelaw03_SeqLaws.j0 k a0 a1 a2 a3 true))) else (towropelaw03_SeqLaws.j0 k a0 a1 a2 a3 true)) else (towropelaw03_SeqLaws.j0 k a0 a1 a2 a3 true)))) = some r := H
  have A5 := Aside0.mk A50
  clear A50
  replace H := Option.bind_eq_some_iff.mp H
  obtain ⟨t121, A60, H⟩ := H
  replace H : (if (wrap64 (t120 + t121)) = 0 then ((seq_Add.f a1 t120).bind fun t122 => (if t122 = a0 then ((seq_Less.f a0 a1).bind fun t123 => (if t123 = true then ((seq_Less.f a1 a0).bind fun t124 => (if t124 = true then (towropelaw03_SeqLaws.j0 k a0 a1 a2 a3 (t120 != t121)) else (towropelaw03_SeqLaws.j0 k a0 a1 a2 a3 false))) else (towropelaw03_SeqLaws.j0 k a0 a1 a2 a3 false))) else (towropelaw03_SeqLaws.j0 k a0 a1 a2 a3 true))) else (if t120 = (-2147483648) then (if t121 = t120 then ((seq_Add.f a1 t120).bind fun t125 => (if t125 = a0 then ((seq_Less.f a0 a1).bind fun t126 => (if t126 = true then ((seq_Less.f a1 a0).bind fun t127 => (if t127 = true then (towropelaw03_SeqLaws.j0 k a0 a1 a2 a3 (t120 != t121)) else (towropelaw03_SeqLaws.j0 k a0 a1 a2 a3 false))) else (towropelaw03_SeqLaws.j0 k a0 a1 a2 a3 false))) else (towropelaw03_SeqLaws.j0 k a0 a1 a2 a3 true))) else (towropelaw03_SeqLaws.j0 k a0 a1 a2 a3 true)) else (towropelaw03_SeqLaws.j0 k a0 a1 a2 a3 true))) = some r := H
  have A6 := Aside0.mk A60
  clear A60
  have HC7 := Aside0.mk H
  clear H
  go_enter Try.func9, Try.ntmps9
  go_upto_region 2 with (first | ((with_reducible refine gate_callee (f := 28) rfl ?_); refine goesL_ (some 15) rfl rfl Try.func28 (by kernel_rfl) rfl #[.int .u32 a0, .int .u32 a1] rfl (by (try simp only [List.map_toArray, List.map_cons, List.map_nil]); first | done | rfl | (simp only [List.length_drop, List.length_take]; rfl)) ?_; (with_reducible refine (seq_Diff.calls a0 a1 t120 _ A5.out).mono ?_); rintro e w' ⟨rfl, ⟨nd, rfl⟩⟩; refine ⟨_, rfl, ?_⟩) | ((with_reducible refine gate_callee (f := 28) rfl ?_); refine goesL_ (some 18) rfl rfl Try.func28 (by kernel_rfl) rfl #[.int .u32 a1, .int .u32 a0] rfl (by (try simp only [List.map_toArray, List.map_cons, List.map_nil]); first | done | rfl | (simp only [List.length_drop, List.length_take]; rfl)) ?_; (with_reducible refine (seq_Diff.calls a1 a0 t121 _ A6.out).mono ?_); rintro e w' ⟨rfl, ⟨nd, rfl⟩⟩; refine ⟨_, rfl, ?_⟩))
  (try simp only [Act.put, List.setIfInBounds_toArray, List.set_cons_zero, List.set_cons_succ])
  go_cut [53] (fun v53 wc => ∃ (kq : Nat) (x53_6 : Bool), v53 = .bool x53_6 ∧ Aside0 (towropelaw03_SeqLaws.j0 kq a0 a1 a2 a3 x53_6 = some r) ∧ Aside0 (kq ≤ k) ∧ Aside0 (Below w.heap.size w wc))
  case first =>
    have H := HC7.out
    clear HC7
    by_cases c8 : (wrap64 (t120 + t121)) = 0
    · rw [if_pos c8] at H
      have c8b0 : ((wrap64 (t120 + t121)) == 0) = true := beq_iff_eq.mpr c8
      have c8b1 : ((wrap64 (t120 + t121)) != 0) = false := bne_eq_false_iff_eq.mpr c8
      clear c8
      (first | rw [c8b0] | (simp only [i64_w, i32_w]; rw [c8b0]) | skip)
      replace H := Option.bind_eq_some_iff.mp H
      obtain ⟨t122, A90, H⟩ := H
      replace H : (if t122 = a0 then ((seq_Less.f a0 a1).bind fun t123 => (if t123 = true then ((seq_Less.f a1 a0).bind fun t124 => (if t124 = true then (towropelaw03_SeqLaws.j0 k a0 a1 a2 a3 (t120 != t121)) else (towropelaw03_SeqLaws.j0 k a0 a1 a2 a3 false))) else (towropelaw03_SeqLaws.j0 k a0 a1 a2 a3 false))) else (towropelaw03_SeqLaws.j0 k a0 a1 a2 a3 true)) = some r := H
      have A9 := Aside0.mk A90
      clear A90
      by_cases c10 : t122 = a0
      · rw [if_pos c10] at H
        have c10b0 : (t122 == a0) = true := beq_iff_eq.mpr c10
        have c10b1 : (t122 != a0) = false := bne_eq_false_iff_eq.mpr c10
        clear c10
        replace H := Option.bind_eq_some_iff.mp H
        obtain ⟨t123, A110, H⟩ := H
        replace H : (if t123 = true then ((seq_Less.f a1 a0).bind fun t124 => (if t124 = true then (towropelaw03_SeqLaws.j0 k a0 a1 a2 a3 (t120 != t121)) else (towropelaw03_SeqLaws.j0 k a0 a1 a2 a3 false))) else (towropelaw03_SeqLaws.j0 k a0 a1 a2 a3 false)) = some r := H
        have A11 := Aside0.mk A110
        clear A110
        by_cases c12 : t123 = true
        · subst c12
          have H1 : ((seq_Less.f a1 a0).bind fun t124 => (if t124 = true then (towropelaw03_SeqLaws.j0 k a0 a1 a2 a3 (t120 != t121)) else (towropelaw03_SeqLaws.j0 k a0 a1 a2 a3 false))) = some r := by rw [if_pos rfl] at H; exact H
          clear H
          have H := H1
          clear H1
          replace H := Option.bind_eq_some_iff.mp H
          obtain ⟨t124, A130, H⟩ := H
          replace H : (if t124 = true then (towropelaw03_SeqLaws.j0 k a0 a1 a2 a3 (t120 != t121)) else (towropelaw03_SeqLaws.j0 k a0 a1 a2 a3 false)) = some r := H
          have A13 := Aside0.mk A130
          clear A130
          by_cases c14 : t124 = true
          · subst c14
            have H1 : (towropelaw03_SeqLaws.j0 k a0 a1 a2 a3 (t120 != t121)) = some r := by rw [if_pos rfl] at H; exact H
            clear H
            have H := H1
            clear H1
            have H' := Aside0.mk H
            clear H
            go_wp2_with (first | (go_at_call 31; (with_reducible refine (seq_Add.calls a1 t120 t122 _ A9.out).mono ?_); rintro e w' ⟨rfl, ⟨nd, rfl⟩⟩) | (go_at_call 29; (with_reducible refine (seq_Less.calls a0 a1 true _ A11.out).mono ?_); rintro e w' ⟨rfl, ⟨nd, rfl⟩⟩) | (go_at_call 29; (with_reducible refine (seq_Less.calls a1 a0 true _ A13.out).mono ?_); rintro e w' ⟨rfl, ⟨nd, rfl⟩⟩))
            go_meet
            case rel => exact ⟨_, ((t120 != t121)), (by first | rfl | (simp; done) | (simp [*]; done)), H', ⟨by first | omega | exact Nat.le_refl _⟩, ⟨by repeat (first | (with_reducible first | exact HB.out | apply below_alloc | apply pw_below_drewN | apply below_drew1) | exact HB.out)⟩⟩
          · replace c14 := Bool.eq_false_iff.mpr c14
            subst c14
            have H1 : (towropelaw03_SeqLaws.j0 k a0 a1 a2 a3 false) = some r := by rw [if_neg (show ¬ (false = true) by decide)] at H; exact H
            clear H
            have H := H1
            clear H1
            have H' := Aside0.mk H
            clear H
            go_wp2_with (first | (go_at_call 31; (with_reducible refine (seq_Add.calls a1 t120 t122 _ A9.out).mono ?_); rintro e w' ⟨rfl, ⟨nd, rfl⟩⟩) | (go_at_call 29; (with_reducible refine (seq_Less.calls a0 a1 true _ A11.out).mono ?_); rintro e w' ⟨rfl, ⟨nd, rfl⟩⟩) | (go_at_call 29; (with_reducible refine (seq_Less.calls a1 a0 false _ A13.out).mono ?_); rintro e w' ⟨rfl, ⟨nd, rfl⟩⟩))
            go_meet
            case rel => exact ⟨_, (false), (by first | rfl | (simp; done) | (simp [*]; done)), H', ⟨by first | omega | exact Nat.le_refl _⟩, ⟨by repeat (first | (with_reducible first | exact HB.out | apply below_alloc | apply pw_below_drewN | apply below_drew1) | exact HB.out)⟩⟩
        · replace c12 := Bool.eq_false_iff.mpr c12
          subst c12
          have H1 : (towropelaw03_SeqLaws.j0 k a0 a1 a2 a3 false) = some r := by rw [if_neg (show ¬ (false = true) by decide)] at H; exact H
          clear H
          have H := H1
          clear H1
          have H' := Aside0.mk H
          clear H
          go_wp2_with (first | (go_at_call 31; (with_reducible refine (seq_Add.calls a1 t120 t122 _ A9.out).mono ?_); rintro e w' ⟨rfl, ⟨nd, rfl⟩⟩) | (go_at_call 29; (with_reducible refine (seq_Less.calls a0 a1 false _ A11.out).mono ?_); rintro e w' ⟨rfl, ⟨nd, rfl⟩⟩))
          go_meet
          case rel => exact ⟨_, (false), (by first | rfl | (simp; done) | (simp [*]; done)), H', ⟨by first | omega | exact Nat.le_refl _⟩, ⟨by repeat (first | (with_reducible first | exact HB.out | apply below_alloc | apply pw_below_drewN | apply below_drew1) | exact HB.out)⟩⟩
      · rw [if_neg c10] at H
        have c10b0 : (t122 == a0) = false := beq_eq_false_iff_ne.mpr c10
        have c10b1 : (t122 != a0) = true := bne_iff_ne.mpr c10
        have H' := Aside0.mk H
        clear H
        go_wp2_with (first | (go_at_call 31; (with_reducible refine (seq_Add.calls a1 t120 t122 _ A9.out).mono ?_); rintro e w' ⟨rfl, ⟨nd, rfl⟩⟩))
        go_meet
        case rel => exact ⟨_, (true), (by first | rfl | (simp; done) | (simp [*]; done)), H', ⟨by first | omega | exact Nat.le_refl _⟩, ⟨by repeat (first | (with_reducible first | exact HB.out | apply below_alloc | apply pw_below_drewN | apply below_drew1) | exact HB.out)⟩⟩
    · rw [if_neg c8] at H
      have c8b0 : ((wrap64 (t120 + t121)) == 0) = false := beq_eq_false_iff_ne.mpr c8
      have c8b1 : ((wrap64 (t120 + t121)) != 0) = true := bne_iff_ne.mpr c8
      (first | rw [c8b0] | (simp only [i64_w, i32_w]; rw [c8b0]) | skip)
      by_cases c15 : t120 = (-2147483648)
      · rw [if_pos c15] at H
        have c15b0 : (t120 == (-2147483648)) = true := beq_iff_eq.mpr c15
        have c15b1 : (t120 != (-2147483648)) = false := bne_eq_false_iff_eq.mpr c15
        clear c15
        by_cases c16 : t121 = t120
        · rw [if_pos c16] at H
          have c16b0 : (t121 == t120) = true := beq_iff_eq.mpr c16
          have c16b1 : (t121 != t120) = false := bne_eq_false_iff_eq.mpr c16
          clear c16
          replace H := Option.bind_eq_some_iff.mp H
          obtain ⟨t125, A170, H⟩ := H
          replace H : (if t125 = a0 then ((seq_Less.f a0 a1).bind fun t126 => (if t126 = true then ((seq_Less.f a1 a0).bind fun t127 => (if t127 = true then (towropelaw03_SeqLaws.j0 k a0 a1 a2 a3 (t120 != t121)) else (towropelaw03_SeqLaws.j0 k a0 a1 a2 a3 false))) else (towropelaw03_SeqLaws.j0 k a0 a1 a2 a3 false))) else (towropelaw03_SeqLaws.j0 k a0 a1 a2 a3 true)) = some r := H
          have A17 := Aside0.mk A170
          clear A170
          by_cases c18 : t125 = a0
          · rw [if_pos c18] at H
            have c18b0 : (t125 == a0) = true := beq_iff_eq.mpr c18
            have c18b1 : (t125 != a0) = false := bne_eq_false_iff_eq.mpr c18
            clear c18
            replace H := Option.bind_eq_some_iff.mp H
            obtain ⟨t126, A190, H⟩ := H
            replace H : (if t126 = true then ((seq_Less.f a1 a0).bind fun t127 => (if t127 = true then (towropelaw03_SeqLaws.j0 k a0 a1 a2 a3 (t120 != t121)) else (towropelaw03_SeqLaws.j0 k a0 a1 a2 a3 false))) else (towropelaw03_SeqLaws.j0 k a0 a1 a2 a3 false)) = some r := H
            have A19 := Aside0.mk A190
            clear A190
            by_cases c20 : t126 = true
            · subst c20
              have H1 : ((seq_Less.f a1 a0).bind fun t127 => (if t127 = true then (towropelaw03_SeqLaws.j0 k a0 a1 a2 a3 (t120 != t121)) else (towropelaw03_SeqLaws.j0 k a0 a1 a2 a3 false))) = some r := by rw [if_pos rfl] at H; exact H
              clear H
              have H := H1
              clear H1
              replace H := Option.bind_eq_some_iff.mp H
              obtain ⟨t127, A210, H⟩ := H
              replace H : (if t127 = true then (towropelaw03_SeqLaws.j0 k a0 a1 a2 a3 (t120 != t121)) else (towropelaw03_SeqLaws.j0 k a0 a1 a2 a3 false)) = some r := H
              have A21 := Aside0.mk A210
              clear A210
              by_cases c22 : t127 = true
              · subst c22
                have H1 : (towropelaw03_SeqLaws.j0 k a0 a1 a2 a3 (t120 != t121)) = some r := by rw [if_pos rfl] at H; exact H
                clear H
                have H := H1
                clear H1
                have H' := Aside0.mk H
                clear H
                go_wp2_with (first | (go_at_call 31; (with_reducible refine (seq_Add.calls a1 t120 t125 _ A17.out).mono ?_); rintro e w' ⟨rfl, ⟨nd, rfl⟩⟩) | (go_at_call 29; (with_reducible refine (seq_Less.calls a0 a1 true _ A19.out).mono ?_); rintro e w' ⟨rfl, ⟨nd, rfl⟩⟩) | (go_at_call 29; (with_reducible refine (seq_Less.calls a1 a0 true _ A21.out).mono ?_); rintro e w' ⟨rfl, ⟨nd, rfl⟩⟩))
                go_meet
                case rel => exact ⟨_, ((t120 != t121)), (by first | rfl | (simp; done) | (simp [*]; done)), H', ⟨by first | omega | exact Nat.le_refl _⟩, ⟨by repeat (first | (with_reducible first | exact HB.out | apply below_alloc | apply pw_below_drewN | apply below_drew1) | exact HB.out)⟩⟩
              · replace c22 := Bool.eq_false_iff.mpr c22
                subst c22
                have H1 : (towropelaw03_SeqLaws.j0 k a0 a1 a2 a3 false) = some r := by rw [if_neg (show ¬ (false = true) by decide)] at H; exact H
                clear H
                have H := H1
                clear H1
                have H' := Aside0.mk H
                clear H
                go_wp2_with (first | (go_at_call 31; (with_reducible refine (seq_Add.calls a1 t120 t125 _ A17.out).mono ?_); rintro e w' ⟨rfl, ⟨nd, rfl⟩⟩) | (go_at_call 29; (with_reducible refine (seq_Less.calls a0 a1 true _ A19.out).mono ?_); rintro e w' ⟨rfl, ⟨nd, rfl⟩⟩) | (go_at_call 29; (with_reducible refine (seq_Less.calls a1 a0 false _ A21.out).mono ?_); rintro e w' ⟨rfl, ⟨nd, rfl⟩⟩))
                go_meet
                case rel => exact ⟨_, (false), (by first | rfl | (simp; done) | (simp [*]; done)), H', ⟨by first | omega | exact Nat.le_refl _⟩, ⟨by repeat (first | (with_reducible first | exact HB.out | apply below_alloc | apply pw_below_drewN | apply below_drew1) | exact HB.out)⟩⟩
            · replace c20 := Bool.eq_false_iff.mpr c20
              subst c20
              have H1 : (towropelaw03_SeqLaws.j0 k a0 a1 a2 a3 false) = some r := by rw [if_neg (show ¬ (false = true) by decide)] at H; exact H
              clear H
              have H := H1
              clear H1
              have H' := Aside0.mk H
              clear H
              go_wp2_with (first | (go_at_call 31; (with_reducible refine (seq_Add.calls a1 t120 t125 _ A17.out).mono ?_); rintro e w' ⟨rfl, ⟨nd, rfl⟩⟩) | (go_at_call 29; (with_reducible refine (seq_Less.calls a0 a1 false _ A19.out).mono ?_); rintro e w' ⟨rfl, ⟨nd, rfl⟩⟩))
              go_meet
              case rel => exact ⟨_, (false), (by first | rfl | (simp; done) | (simp [*]; done)), H', ⟨by first | omega | exact Nat.le_refl _⟩, ⟨by repeat (first | (with_reducible first | exact HB.out | apply below_alloc | apply pw_below_drewN | apply below_drew1) | exact HB.out)⟩⟩
          · rw [if_neg c18] at H
            have c18b0 : (t125 == a0) = false := beq_eq_false_iff_ne.mpr c18
            have c18b1 : (t125 != a0) = true := bne_iff_ne.mpr c18
            have H' := Aside0.mk H
            clear H
            go_wp2_with (first | (go_at_call 31; (with_reducible refine (seq_Add.calls a1 t120 t125 _ A17.out).mono ?_); rintro e w' ⟨rfl, ⟨nd, rfl⟩⟩))
            go_meet
            case rel => exact ⟨_, (true), (by first | rfl | (simp; done) | (simp [*]; done)), H', ⟨by first | omega | exact Nat.le_refl _⟩, ⟨by repeat (first | (with_reducible first | exact HB.out | apply below_alloc | apply pw_below_drewN | apply below_drew1) | exact HB.out)⟩⟩
        · rw [if_neg c16] at H
          have c16b0 : (t121 == t120) = false := beq_eq_false_iff_ne.mpr c16
          have c16b1 : (t121 != t120) = true := bne_iff_ne.mpr c16
          have H' := Aside0.mk H
          clear H
          go_wp2
          go_meet
          case rel => exact ⟨_, (true), (by first | rfl | (simp; done) | (simp [*]; done)), H', ⟨by first | omega | exact Nat.le_refl _⟩, ⟨by repeat (first | (with_reducible first | exact HB.out | apply below_alloc | apply pw_below_drewN | apply below_drew1) | exact HB.out)⟩⟩
      · rw [if_neg c15] at H
        have c15b0 : (t120 == (-2147483648)) = false := beq_eq_false_iff_ne.mpr c15
        have c15b1 : (t120 != (-2147483648)) = true := bne_iff_ne.mpr c15
        have H' := Aside0.mk H
        clear H
        go_wp2
        go_meet
        case rel => exact ⟨_, (true), (by first | rfl | (simp; done) | (simp [*]; done)), H', ⟨by first | omega | exact Nat.le_refl _⟩, ⟨by repeat (first | (with_reducible first | exact HB.out | apply below_alloc | apply pw_below_drewN | apply below_drew1) | exact HB.out)⟩⟩
  case rest =>
    clear HC7
    try clear c1
    try clear c2
    try clear p2
    try clear p6
    try clear c8
    try clear c8b0
    try clear c8b1
    try clear c9
    try clear c10
    try clear c10b0
    try clear c10b1
    try clear c12
    try clear c14
    try clear c15
    try clear c15b0
    try clear c15b1
    try clear c16
    try clear c16b0
    try clear c16b1
    try clear c18
    try clear c18b0
    try clear c18b1
    try clear c20
    try clear c22
    obtain ⟨kq, x53_6, rfl, HA, HJ6, HB⟩ := hcut
    cases kq with
    | zero => exact absurd HA.out (by simp [towropelaw03_SeqLaws.j0])
    | succ kj6 =>
      have H := HA.out
      clear HA
      simp only [towropelaw03_SeqLaws.j0] at H
      by_cases c23 : x53_6 = true
      · subst c23
        have H1 : (some false) = some r := by rw [if_pos rfl] at H; exact H
        clear H
        have H := H1
        clear H1
        obtain rfl := Option.some.inj H
        go_wp2
        go_ret
        exact ⟨by first | rfl | (simp [errW_none, errW_some] <;> rfl) | (simp [*, errW_none, errW_some] <;> rfl), by repeat (first | (with_reducible first | exact HB.out | apply below_alloc | apply pw_below_drewN | apply below_drew1) | exact HB.out)⟩
      · replace c23 := Bool.eq_false_iff.mpr c23
        subst c23
        have H1 : ((seq_Trim.f a0 (wrap64 (a2)) a1 (wrap64 (a3))).bind fun bt128 => (if bt128.1 = bt128.2 then ((towropelaw03_live.f).bind fun t130 => (some t130)) else ((seq_Add.f a0 bt128.1).bind fun t131 => ((seq_Accept.f t131 (wrap64 (bt128.2 - bt128.1)) a1 (wrap64 (a3))).bind fun t132 => (if t132 = true then ((towropelaw03_live.f).bind fun t133 => (some t133)) else (some false)))))) = some r := by rw [if_neg (show ¬ (false = true) by decide)] at H; exact H
        clear H
        have H := H1
        clear H1
        replace H := Option.bind_eq_some_iff.mp H
        obtain ⟨⟨t128, t129⟩, A240, H⟩ := H
        replace H : (if t128 = t129 then ((towropelaw03_live.f).bind fun t130 => (some t130)) else ((seq_Add.f a0 t128).bind fun t131 => ((seq_Accept.f t131 (wrap64 (t129 - t128)) a1 (wrap64 (a3))).bind fun t132 => (if t132 = true then ((towropelaw03_live.f).bind fun t133 => (some t133)) else (some false))))) = some r := H
        have A24 := Aside0.mk A240
        clear A240
        by_cases c25 : t128 = t129
        · rw [if_pos c25] at H
          have c25b0 : (t128 == t129) = true := beq_iff_eq.mpr c25
          have c25b1 : (t128 != t129) = false := bne_eq_false_iff_eq.mpr c25
          clear c25
          replace H := Option.bind_eq_some_iff.mp H
          obtain ⟨t130, A260, H⟩ := H
          replace H : (some t130) = some r := H
          have A26 := Aside0.mk A260
          clear A260
          obtain rfl := Option.some.inj H
          go_wp2_with (first | ((with_reducible refine gate_callee (f := 19) rfl ?_); refine goesL_ (some 61) rfl rfl Try.func19 (by kernel_rfl) rfl #[.int .u32 a0, .int .i64 (wrap64 (a2)), .int .u32 a1, .int .i64 (wrap64 (a3))] rfl (by (try simp only [List.map_toArray, List.map_cons, List.map_nil]); first | done | rfl | (simp only [List.length_drop, List.length_take]; rfl)) ?_; (with_reducible refine (seq_Trim.calls a0 (wrap64 (a2)) a1 (wrap64 (a3)) t128 t129 _ A24.out).mono ?_); rintro e w27 ⟨rfl, hb⟩; refine ⟨_, rfl, ?_⟩; have n0_ := Aside0.mk (below_step (by repeat (first | (with_reducible first | exact HB.out | apply below_alloc | apply pw_below_drewN | apply below_drew1) | exact HB.out)) hb); clear HB; have HB := n0_; clear n0_; (try clear hb); (try clear hb2); (try clear hk); (try clear hi)) | (go_at_call 21; (with_reducible refine (towropelaw03_live.calls  t130 _ A26.out).mono ?_); rintro e w28 ⟨rfl, hb⟩; have n0_ := Aside0.mk (below_step (by repeat (first | (with_reducible first | exact HB.out | apply below_alloc | apply pw_below_drewN | apply below_drew1) | exact HB.out)) hb); clear HB; have HB := n0_; clear n0_; (try clear hb); (try clear hb2); (try clear hk); (try clear hi)))
          go_ret
          exact ⟨by first | rfl | (simp [errW_none, errW_some] <;> rfl) | (simp [*, errW_none, errW_some] <;> rfl), by repeat (first | (with_reducible first | exact HB.out | apply below_alloc | apply pw_below_drewN | apply below_drew1) | exact HB.out)⟩
        · rw [if_neg c25] at H
          have c25b0 : (t128 == t129) = false := beq_eq_false_iff_ne.mpr c25
          have c25b1 : (t128 != t129) = true := bne_iff_ne.mpr c25
          replace H := Option.bind_eq_some_iff.mp H
          obtain ⟨t131, A290, H⟩ := H
          replace H : ((seq_Accept.f t131 (wrap64 (t129 - t128)) a1 (wrap64 (a3))).bind fun t132 => (if t132 = true then ((towropelaw03_live.f).bind fun t133 => (some t133)) else (some false))) = some r := H
          have A29 := Aside0.mk A290
          clear A290
          replace H := Option.bind_eq_some_iff.mp H
          obtain ⟨t132, A300, H⟩ := H
          replace H : (if t132 = true then ((towropelaw03_live.f).bind fun t133 => (some t133)) else (some false)) = some r := H
          have A30 := Aside0.mk A300
          clear A300
          by_cases c31 : t132 = true
          · subst c31
            have H1 : ((towropelaw03_live.f).bind fun t133 => (some t133)) = some r := by rw [if_pos rfl] at H; exact H
            clear H
            have H := H1
            clear H1
            replace H := Option.bind_eq_some_iff.mp H
            obtain ⟨t133, A320, H⟩ := H
            replace H : (some t133) = some r := H
            have A32 := Aside0.mk A320
            clear A320
            obtain rfl := Option.some.inj H
            go_wp2_with (first | ((with_reducible refine gate_callee (f := 19) rfl ?_); refine goesL_ (some 61) rfl rfl Try.func19 (by kernel_rfl) rfl #[.int .u32 a0, .int .i64 (wrap64 (a2)), .int .u32 a1, .int .i64 (wrap64 (a3))] rfl (by (try simp only [List.map_toArray, List.map_cons, List.map_nil]); first | done | rfl | (simp only [List.length_drop, List.length_take]; rfl)) ?_; (with_reducible refine (seq_Trim.calls a0 (wrap64 (a2)) a1 (wrap64 (a3)) t128 t129 _ A24.out).mono ?_); rintro e w33 ⟨rfl, hb⟩; refine ⟨_, rfl, ?_⟩; have n0_ := Aside0.mk (below_step (by repeat (first | (with_reducible first | exact HB.out | apply below_alloc | apply pw_below_drewN | apply below_drew1) | exact HB.out)) hb); clear HB; have HB := n0_; clear n0_; (try clear hb); (try clear hb2); (try clear hk); (try clear hi)) | (go_at_call 31; (with_reducible refine (seq_Add.calls a0 t128 t131 _ A29.out).mono ?_); rintro e w' ⟨rfl, ⟨nd, rfl⟩⟩) | (go_at_call 38; (with_reducible refine (seq_Accept.calls t131 (wrap64 (t129 - t128)) a1 (wrap64 (a3)) true _ A30.out).mono ?_); rintro e w34 ⟨rfl, hb⟩; have n0_ := Aside0.mk (below_step (by repeat (first | (with_reducible first | exact HB.out | apply below_alloc | apply pw_below_drewN | apply below_drew1) | exact HB.out)) hb); clear HB; have HB := n0_; clear n0_; (try clear hb); (try clear hb2); (try clear hk); (try clear hi)) | (go_at_call 21; (with_reducible refine (towropelaw03_live.calls  t133 _ A32.out).mono ?_); rintro e w35 ⟨rfl, hb⟩; have n0_ := Aside0.mk (below_step (by repeat (first | (with_reducible first | exact HB.out | apply below_alloc | apply pw_below_drewN | apply below_drew1) | exact HB.out)) hb); clear HB; have HB := n0_; clear n0_; (try clear hb); (try clear hb2); (try clear hk); (try clear hi)))
            go_ret
            exact ⟨by first | rfl | (simp [errW_none, errW_some] <;> rfl) | (simp [*, errW_none, errW_some] <;> rfl), by repeat (first | (with_reducible first | exact HB.out | apply below_alloc | apply pw_below_drewN | apply below_drew1) | exact HB.out)⟩
          · replace c31 := Bool.eq_false_iff.mpr c31
            subst c31
            have H1 : (some false) = some r := by rw [if_neg (show ¬ (false = true) by decide)] at H; exact H
            clear H
            have H := H1
            clear H1
            obtain rfl := Option.some.inj H
            go_wp2_with (first | ((with_reducible refine gate_callee (f := 19) rfl ?_); refine goesL_ (some 61) rfl rfl Try.func19 (by kernel_rfl) rfl #[.int .u32 a0, .int .i64 (wrap64 (a2)), .int .u32 a1, .int .i64 (wrap64 (a3))] rfl (by (try simp only [List.map_toArray, List.map_cons, List.map_nil]); first | done | rfl | (simp only [List.length_drop, List.length_take]; rfl)) ?_; (with_reducible refine (seq_Trim.calls a0 (wrap64 (a2)) a1 (wrap64 (a3)) t128 t129 _ A24.out).mono ?_); rintro e w36 ⟨rfl, hb⟩; refine ⟨_, rfl, ?_⟩; have n0_ := Aside0.mk (below_step (by repeat (first | (with_reducible first | exact HB.out | apply below_alloc | apply pw_below_drewN | apply below_drew1) | exact HB.out)) hb); clear HB; have HB := n0_; clear n0_; (try clear hb); (try clear hb2); (try clear hk); (try clear hi)) | (go_at_call 31; (with_reducible refine (seq_Add.calls a0 t128 t131 _ A29.out).mono ?_); rintro e w' ⟨rfl, ⟨nd, rfl⟩⟩) | (go_at_call 38; (with_reducible refine (seq_Accept.calls t131 (wrap64 (t129 - t128)) a1 (wrap64 (a3)) false _ A30.out).mono ?_); rintro e w37 ⟨rfl, hb⟩; have n0_ := Aside0.mk (below_step (by repeat (first | (with_reducible first | exact HB.out | apply below_alloc | apply pw_below_drewN | apply below_drew1) | exact HB.out)) hb); clear HB; have HB := n0_; clear n0_; (try clear hb); (try clear hb2); (try clear hk); (try clear hi)))
            go_ret
            exact ⟨by first | rfl | (simp [errW_none, errW_some] <;> rfl) | (simp [*, errW_none, errW_some] <;> rfl), by repeat (first | (with_reducible first | exact HB.out | apply below_alloc | apply pw_below_drewN | apply below_drew1) | exact HB.out)⟩

/-- THE ONE PURE STATEMENT of towropelaw03_SeqLaws: yours. -/
def towropelaw03_SeqLaws.Pure : Prop := ∀ (a0 : Int) (a1 : Int) (a2 : Int) (a3 : Int), (Lit.int .u32 a0).wf = true → (Lit.int .u32 a1).wf = true → (Lit.int .u16 a2).wf = true → (Lit.int .u16 a3).wf = true → ∃ k, towropelaw03_SeqLaws.f k a0 a1 a2 a3 = some true
theorem towropelaw03_SeqLaws.walk (P : towropelaw03_SeqLaws.Pure) (a0 : Int) (a1 : Int) (a2 : Int) (a3 : Int) (w : World) (w0 : (Lit.int .u32 a0).wf = true) (w1 : (Lit.int .u32 a1).wf = true) (w2 : (Lit.int .u16 a2).wf = true) (w3 : (Lit.int .u16 a3).wf = true) :
    Calls Try.prog 9 #[.int .u32 a0, .int .u32 a1, .int .u16 a2, .int .u16 a3] w fun e w' => e = .returned (.bool true) ∧ Below w.heap.size w w' := by
  obtain ⟨k, h⟩ := P a0 a1 a2 a3 w0 w1 w2 w3
  refine (towropelaw03_SeqLaws.calls k a0 a1 a2 a3 true w h).mono ?_
  rintro e w' ⟨rfl, hd⟩
  exact ⟨rfl, hd⟩

end Go.Proofs.Ytcnodelfblpdiaa.PSeq2
