-- Laid by a program of this session (wip/tools/mk.py) over the kit's print: functions, contracts, walks; not written by hand, not trusted: Lean checks it.
import Derived.Test.YtcebnaknodghcaaDoorPTelx0
import Derived.Test.YtcebnaknodghcaaDoorPTelx1
namespace Go.Proofs.YtcebnaknodghcaaDoor.PTel
open Go.RowKit Go.Proofs.YtcebnaknodghcaaDoorW.PrintWords Go.Proofs.YtcebnaknodghcaaDoorW.PrintLast Go.Proofs.YtcebnaknodghcaaDoorW.PrintMore
attribute [local go_sem] max2_int min2_int max_two min_two max_three min_three max_four min_four   -- for this text's walks alone
set_option linter.unusedVariables false
set_option linter.unusedSimpArgs false

/-! ### addr_Text: function 17 -/
def addr_Text.l0 : Nat → Int → List ByteArray → Int → Option (ByteArray)
  | 0, _, _, _ => none
  | k + 1, x0, x3, x5 => if x5 < 4 then (if 0 ≤ (wrap64 (24 - (wrap64 (8 * x5)))) then ((strconv_Itoa_62.f ((shr .u32 x0 (wrap64 (24 - (wrap64 (8 * x5))))) % 256)).bind fun t178 => (if x3.length < 8796093022208 then (addr_Text.l0 k x0 (x3 ++ [t178]) (wrap64 (x5 + 1))) else (none))) else (none)) else ((strings_Join.f x3 (⟨#[46]⟩ : ByteArray)).bind fun t182 => (some t182))
def addr_Text.f (k : Nat) (a0 : Int) : Option (ByteArray) := addr_Text.l0 k a0 ([] : List ByteArray) 0
theorem addr_Text.mono_l : ∀ k, (∀ y0 y1 y2, LeO (addr_Text.l0 k y0 y1 y2) (addr_Text.l0 (k + 1) y0 y1 y2))
  | 0 => fun _ _ _ r h => by simp [addr_Text.l0] at h
  | k + 1 => by
    have ih0 := addr_Text.mono_l k
    · intro y0 y1 y2
      unfold addr_Text.l0
      repeat' first
      | (with_reducible exact ih0 _ _ _)
      | (with_reducible exact LeO.refl _)
      | (with_reducible exact LeO.none _)
      | (with_reducible refine LeO.ite ?_ ?_)
      | (with_reducible refine LeO.bind ?_ (fun _ => ?_))
      | exact ih0 _ _ _
      | exact LeO.none _
      | refine LeO.ite ?_ ?_
      | refine LeO.bind ?_ (fun _ => ?_)
theorem addr_Text.mono : ∀ a0 k, LeO (addr_Text.f k a0) (addr_Text.f (k + 1) a0) := by
  intro a0 k
  have ih0 := addr_Text.mono_l k
  unfold addr_Text.f
  repeat' first
      | (with_reducible exact ih0 _ _ _)
      | (with_reducible exact LeO.refl _)
      | (with_reducible exact LeO.none _)
      | (with_reducible refine LeO.ite ?_ ?_)
      | (with_reducible refine LeO.bind ?_ (fun _ => ?_))
      | exact ih0 _ _ _
      | exact LeO.none _
      | refine LeO.ite ?_ ?_
      | refine LeO.bind ?_ (fun _ => ?_)
set_option maxHeartbeats 8000000 in
set_option maxRecDepth 100000 in
theorem addr_Text.calls (k : Nat) (a0 : Int) (r : ByteArray) (w : World) (ht : Go.Proofs.YtcebnaknodghcaaDoor.HItoa.Tab w) (h : addr_Text.f k a0 = some r) :
    Calls Tryd.prog 17 #[.int .u32 a0] w fun e w' => e = .returned (.string r) ∧ Below w.heap.size w w' := by
  have HT := Aside0.mk ht
  clear ht
  have HB := Aside0.mk (Below.refl w.heap.size w)
  have H : (addr_Text.l0 k a0 ([] : List ByteArray) 0) = some r := h
  clear h
  have H' := Aside0.mk H
  clear H
  go_enter Tryd.func17, Tryd.ntmps17
  go_wp2
  go_loopg [3, 5] k (fun kq v3 v5 w' => ∃ (x3_1 : List ByteArray) (x5_1 : Int), v5 = .int .i64 x5_1 ∧ Aside0 (addr_Text.l0 kq a0 x3_1 x5_1 = some r) ∧ Aside0 (kq ≤ k) ∧ Aside0 (Kd.R Kd.string 9 w' w.heap.size (fun _ => True) v3 x3_1) ∧ Aside0 (Below w.heap.size w w'))
  case atStart => exact ⟨(([] : List ByteArray)), (0), (by first | rfl | (simp; done) | (simp [*]; done)), H', ⟨Nat.le_refl _⟩, ⟨by first | exact Kd.R_nil _ _ _ _ _ | exact Kd.N_nil _ _ _ _ _ | exact Kd.V_nil _ _ _ _ _ | exact Kd.Q_nil _ _ _ _ _ | exact Kd.S_nil _ _ _ _ _⟩, ⟨by repeat (first | (with_reducible first | exact HB.out | apply below_alloc | apply pw_below_drewN | apply below_drew1) | exact HB.out)⟩⟩
  case round =>
    clear H'
    try clear c1
    obtain ⟨x3_1, x5_1, rfl, HA, HK1, HO_3, HB⟩ := hrel
    cases gk with
    | zero => exact absurd HA.out (by simp [addr_Text.l0])
    | succ k1 =>
      have H := HA.out
      clear HA
      simp only [addr_Text.l0] at H
      by_cases c2 : x5_1 < 4
      · rw [if_pos c2] at H
        have c2b0 : decide (x5_1 < 4) = true := decide_eq_true c2
        clear c2
        obtain ⟨ji3, hji3⟩ : ∃ j_ : Int, (wrap64 (24 - (wrap64 (8 * x5_1)))) = j_ := ⟨_, rfl⟩
        replace H : (if 0 ≤ (ji3) then ((strconv_Itoa_62.f ((shr .u32 a0 (ji3)) % 256)).bind fun t178 => (if x3_1.length < 8796093022208 then (addr_Text.l0 k1 a0 (x3_1 ++ [t178]) (wrap64 (x5_1 + 1))) else (none))) else (none)) = some r := by first | (rw [hji3] at H; exact H) | (simp only [hji3] at H ⊢; exact H)
        have hji3w : (IntKind.i64.wrap (24 - (wrap64 (8 * x5_1)))) = ji3 := (i64_w _).trans hji3
        by_cases c4 : 0 ≤ (ji3)
        · rw [if_pos c4] at H
          have c4b0 := eq_true c4
          have c4b1 : decide (0 ≤ (ji3)) = true := decide_eq_true c4
          clear c4
          obtain ⟨ji5, hji5⟩ : ∃ j_ : Int, (shr .u32 a0 (ji3)) = j_ := ⟨_, rfl⟩
          replace H : ((strconv_Itoa_62.f ((ji5) % 256)).bind fun t178 => (if x3_1.length < 8796093022208 then (addr_Text.l0 k1 a0 (x3_1 ++ [t178]) (wrap64 (x5_1 + 1))) else (none))) = some r := by first | (rw [hji5] at H; exact H) | (simp only [hji5] at H ⊢; exact H)
          have hji5_ : (a0 / 2 ^ min (ji3).toNat 32) = ji5 := hji5
          have hji5z : (ji3) ≤ 32 → (a0 / 2 ^ (ji3).toNat) = ji5 := shr_small hji5
          replace H := Option.bind_eq_some_iff.mp H
          obtain ⟨t178, A60, H⟩ := H
          replace H : (if x3_1.length < 8796093022208 then (addr_Text.l0 k1 a0 (x3_1 ++ [t178]) (wrap64 (x5_1 + 1))) else (none)) = some r := H
          have A6 := Aside0.mk A60
          clear A60
          by_cases c7 : x3_1.length < 8796093022208
          · rw [if_pos c7] at H
            have LMc7 := Aside0.mk c7
            clear c7
            obtain ⟨y179, hy179⟩ : ∃ y_ : List ByteArray, y_ = (x3_1 ++ [t178]) := ⟨_, rfl⟩
            replace H : (addr_Text.l0 k1 a0 y179 (wrap64 (x5_1 + 1))) = some r := by first | (rw [hy179]; with_reducible exact H) | (have H2_ := (Option.bind_some _ _).symm.trans H; rw [hy179]; with_reducible exact H2_) | (have H2_ := (Option.bind_some _ _).symm.trans H; with_reducible exact H2_) | with_reducible exact H | (rw [hy179]; exact H) | exact H
            have Ny179 := Aside0.mk hy179
            clear hy179
            have H' := Aside0.mk H
            clear H
            go_wp2_with (first | ((with_reducible refine gate_callee (f := 62) rfl ?_); refine goesL_ (some 16) rfl rfl Tryd.func62 (by kernel_rfl) rfl #[.int .i64 ((ji5) % 256)] rfl (by (try simp only [List.map_toArray, List.map_cons, List.map_nil]); first | done | (simp only [hji5]; rfl) | rfl | (simp only [List.length_drop, List.length_take]; rfl)) ?_; (with_reducible refine (strconv_Itoa_62.calls ((ji5) % 256) t178 _ A6.out (ht := (by first | exact HT.out | exact Go.Proofs.YtcebnaknodghcaaDoor.HItoa.Tab.below HT.out (by repeat (first | (with_reducible first | exact HB.out | apply below_alloc | apply pw_below_drewN | apply below_drew1) | exact HB.out))))).mono ?_); rintro e w8 ⟨rfl, hb⟩; refine ⟨_, rfl, ?_⟩; have n0_ := Aside0.mk (Kd.R_below (by (with_reducible repeat (first | apply Kd.R_alloc | apply Kd.R_drewN | apply Kd.R_drew)); exact HO_3.out) hb); have n1_ := Aside0.mk (below_step (by repeat (first | (with_reducible first | exact HB.out | apply below_alloc | apply pw_below_drewN | apply below_drew1) | exact HB.out)) hb); clear HO_3; clear HB; have HO_3 := n0_; have HB := n1_; clear n0_ n1_; (try clear hb); (try clear hb2); (try clear hk); (try clear hi)) | ((with_reducible refine gate_builtin (b := .append) (xs := #[.tmp 8, .tmp 17]) rfl ?_); at_builtin; refine Kd.R_append Kd.string (w0 := w) w.heap.size rfl (.tmp 8) (.tmp 17) 85 9 (.string ⟨#[]⟩) 16 rfl Tryd.underlying85 info9 rfl (by decide) (by omega) u3 x3_1 t178 [.string t178] (fun _ => True) (fun _ => False) rfl rfl ?aP (fun _ hk => hk.elim) ?aF ?aO ?aB ?aS ?aL ?_; (case aP => exact rfl); (case aB => exact (by repeat (first | (with_reducible first | exact HB.out | apply below_alloc | apply pw_below_drewN | apply below_drew1) | exact HB.out))); (case aF => exact (fun _ _ => trivial)); (case aO => exact (by (with_reducible repeat (first | apply Kd.R_alloc | apply Kd.R_drewN | apply Kd.R_drew)); exact HO_3.out)); (case aS => exact (below_size (by repeat (first | (with_reducible first | exact HB.out | apply below_alloc | apply pw_below_drewN | apply below_drew1) | exact HB.out)))); (case aL => have := LMc7.out; omega); intro v180 w9 ho hb hg hat; rw [← Ny179.out] at ho; have n0_ := Aside0.mk (hb); have n1_ := Aside0.mk (ho); clear HB; clear HO_3; have HB := n0_; have HO181 := n1_; clear n0_ n1_; clear ho hb hg hat))
            go_roundg k1
            case measure => have := HK1.out; omega
            case rel => exact ⟨(y179), (wrap64 (x5_1 + 1)), (by first | rfl | (simp; done) | (simp [*]; done)), H', ⟨by have := HK1.out; omega⟩, ⟨by (with_reducible repeat (first | apply Kd.R_alloc | apply Kd.R_drewN | apply Kd.R_drew)); exact HO181.out⟩, ⟨by repeat (first | (with_reducible first | exact HB.out | apply below_alloc | apply pw_below_drewN | apply below_drew1) | exact HB.out)⟩⟩
          · rw [if_neg c7] at H
            exact absurd H (by simp)
        · rw [if_neg c4] at H
          exact absurd H (by simp)
      · rw [if_neg c2] at H
        have c2b0 : decide (x5_1 < 4) = false := decide_eq_false c2
        clear c2
        replace H := Option.bind_eq_some_iff.mp H
        obtain ⟨t182, A100, H⟩ := H
        replace H : (some t182) = some r := H
        have A10 := Aside0.mk A100
        clear A100
        obtain rfl := Option.some.inj H
        obtain ⟨Ao11, co11, eo11⟩ := Kd.R_slice HO_3.out
        subst eo11
        go_wp2_with (first | ((with_reducible refine gate_callee (f := 63) rfl ?_); refine goesL_ (some 21) rfl rfl Tryd.func63 (by kernel_rfl) rfl #[.slice Ao11 x3_1.length co11, .string (⟨#[46]⟩ : ByteArray)] rfl (by (try simp only [List.map_toArray, List.map_cons, List.map_nil]); first | done | rfl | (simp only [List.length_drop, List.length_take]; rfl) | (go_simp; done) | (go_simp; omega)) ?_; (with_reducible refine (strings_Join.calls _ _ x3_1 (⟨#[46]⟩ : ByteArray) t182 _ ?side1 ?side2 A10.out).mono ?_); (case side1 => repeat (first | exact (Kd.R_reads' HO_3.out).2.2 | (with_reducible refine Kd.C_alloc ?_ _) | (with_reducible refine Kd.C_drewN ?_ _) | (with_reducible refine Kd.C_drew ?_))); (case side2 => exact (Kd.R_reads' HO_3.out).2.1); rintro e w12 ⟨rfl, hb⟩; refine ⟨_, rfl, ?_⟩; have n0_ := Aside0.mk (Kd.R_below (by (with_reducible repeat (first | apply Kd.R_alloc | apply Kd.R_drewN | apply Kd.R_drew)); exact HO_3.out) hb); have n1_ := Aside0.mk (below_step (by repeat (first | (with_reducible first | exact HB.out | apply below_alloc | apply pw_below_drewN | apply below_drew1) | exact HB.out)) hb); clear HO_3; clear HB; have HO_3 := n0_; have HB := n1_; clear n0_ n1_; (try clear hb); (try clear hb2); (try clear hk); (try clear hi)))
        go_ret
        exact ⟨by first | rfl | (simp [errW_none, errW_some] <;> rfl) | (simp [*, errW_none, errW_some] <;> rfl), by repeat (first | (with_reducible first | exact HB.out | apply below_alloc | apply pw_below_drewN | apply below_drew1) | exact HB.out)⟩

/-! ### tell_End: function 31 -/
def tell_End.f (k : Nat) (a0_0 : Int) (a0_1 : Int) : Option (ByteArray) := (addr_Text.f k a0_0).bind fun t184 => (if t184.size + 1 ≤ 9223372036854775807 then ((tell_num.f (wrap64 (a0_1))).bind fun t185 => (if (t184 ++ (⟨#[46]⟩ : ByteArray)).size + t185.size ≤ 9223372036854775807 then (some ((t184 ++ (⟨#[46]⟩ : ByteArray)) ++ t185)) else (none))) else (none))
theorem tell_End.mono : ∀ a0 a1 k, LeO (tell_End.f k a0 a1) (tell_End.f (k + 1) a0 a1) := by
  intro a0 a1 k
  unfold tell_End.f
  repeat' first
      | (with_reducible exact addr_Text.mono _ _)
      | (with_reducible exact LeO.refl _)
      | (with_reducible exact LeO.none _)
      | (with_reducible refine LeO.ite ?_ ?_)
      | (with_reducible refine LeO.bind ?_ (fun _ => ?_))
      | exact addr_Text.mono _ _
      | exact LeO.none _
      | refine LeO.ite ?_ ?_
      | refine LeO.bind ?_ (fun _ => ?_)
def tell_End.T1 : Bool × List (List Nat × List Nat) := (true, [([], []), ([0], [0]), ([1], [1]), ([2], [2]), ([], []), ([4], [4]), ([5], [5]), ([6, 2], [6]), ([3, 7], [3, 7]), ([8, 7, 0, 1, 2, 3, 4, 5, 6, 7, 8], [8])])
def tell_End.B1 : List Nat := [0, 1, 3, 7, 0, 16, 48, 119, 255, 511]
theorem tell_End.tab1 : rtab .any (opsOf Tryd.f31 1) = tell_End.T1 := by kernel_rfl
theorem tell_End.bits1 : waitsOk tell_End.T1.2 tell_End.B1 = true := by kernel_rfl
set_option maxHeartbeats 8000000 in
set_option maxRecDepth 100000 in
theorem tell_End.calls (k : Nat) (a0_0 : Int) (a0_1 : Int) (r : ByteArray) (w : World) (ht : Go.Proofs.YtcebnaknodghcaaDoor.HItoa.Tab w) (h : tell_End.f k a0_0 a0_1 = some r) :
    Calls Tryd.prog 31 #[.agg #[.int .u32 a0_0, .int .u16 a0_1]] w fun e w' => e = .returned (.string r) ∧ Below w.heap.size w w' := by
  have HT := Aside0.mk ht
  clear ht
  have hu50 := Tryd.underlying50
  have HB := Aside0.mk (Below.refl w.heap.size w)
  have H : ((addr_Text.f k a0_0).bind fun t184 => (if t184.size + 1 ≤ 9223372036854775807 then ((tell_num.f (wrap64 (a0_1))).bind fun t185 => (if (t184 ++ (⟨#[46]⟩ : ByteArray)).size + t185.size ≤ 9223372036854775807 then (some ((t184 ++ (⟨#[46]⟩ : ByteArray)) ++ t185)) else (none))) else (none))) = some r := h
  clear h
  replace H := Option.bind_eq_some_iff.mp H
  obtain ⟨t184, A20, H⟩ := H
  replace H : (if t184.size + 1 ≤ 9223372036854775807 then ((tell_num.f (wrap64 (a0_1))).bind fun t185 => (if (t184 ++ (⟨#[46]⟩ : ByteArray)).size + t185.size ≤ 9223372036854775807 then (some ((t184 ++ (⟨#[46]⟩ : ByteArray)) ++ t185)) else (none))) else (none)) = some r := H
  have A2 := Aside0.mk A20
  clear A20
  by_cases c3 : t184.size + 1 ≤ 9223372036854775807
  · rw [if_pos c3] at H
    have c3b0 := eq_true c3
    have c3b1 : decide (t184.size + 1 ≤ 9223372036854775807) = true := decide_eq_true c3
    try have c3b2 : (9223372036854775807 < t184.size + 1) = False := eq_false (Nat.not_lt.2 c3)
    replace H := Option.bind_eq_some_iff.mp H
    obtain ⟨t185, A40, H⟩ := H
    replace H : (if (t184 ++ (⟨#[46]⟩ : ByteArray)).size + t185.size ≤ 9223372036854775807 then (some ((t184 ++ (⟨#[46]⟩ : ByteArray)) ++ t185)) else (none)) = some r := H
    have A4 := Aside0.mk A40
    clear A40
    by_cases c5 : (t184 ++ (⟨#[46]⟩ : ByteArray)).size + t185.size ≤ 9223372036854775807
    · rw [if_pos c5] at H
      have c5b0 := eq_true c5
      have c5b1 : decide ((t184 ++ (⟨#[46]⟩ : ByteArray)).size + t185.size ≤ 9223372036854775807) = true := decide_eq_true c5
      try have c5b2 : (9223372036854775807 < (t184 ++ (⟨#[46]⟩ : ByteArray)).size + t185.size) = False := eq_false (Nat.not_lt.2 c5)
      try have c5b2z : (9223372036854775807 < t184.size + 1 + t185.size) = False := eq_false (Nat.not_lt.2 (by have q_ := c5; (try simp only [ByteArray.size_append] at q_); exact q_))
      obtain rfl := Option.some.inj H
      go_enter Tryd.func31, Tryd.ntmps31
      try go_wp2_with (first | ((with_reducible refine gate_dst (N := 1) rfl ?_); refine box_event ?hg (N := 1) ?hd (cs := #[.int .u32 a0_0, .int .u16 a0_1]) (t := 50) ?hr ?_; (case hd => rfl); (case hg => rfl); (case hr => first | (go_simp; done) | (go_simp; rfl)); intro gb183 hg w6 hbox hb; have n0_ := Aside0.mk (below_step (by repeat (first | (with_reducible first | exact HB.out | apply below_alloc | apply pw_below_drewN | apply below_drew1) | exact HB.out)) hb); have n1_ := Aside0.mk (hbox); have n2_ := Aside0.mk ((by rw [hg]; exact (below_size (by repeat (first | (with_reducible first | exact HB.out | apply below_alloc | apply pw_below_drewN | apply below_drew1) | exact HB.out))) : w.heap.size ≤ gb183)); have n3_ := Aside0.mk ((by rw [hg]; exact (below_size (by repeat (first | (with_reducible first | exact HB.out | apply below_alloc | apply pw_below_drewN | apply below_drew1) | exact HB.out))) : w.heap.size ≤ gb183)); clear HB; have HB := n0_; have BK183 := n1_; have GW183 := n2_; have GE183 := n3_; clear n0_ n1_ n2_ n3_; clear hb hbox hg))
      have n0_ := Aside0.mk (blk_drew BK183.out)
      have n1_ := Aside0.mk (below_drew1 HB.out)
      clear BK183
      clear HB
      have BK183 := n0_
      have HB := n1_
      clear n0_ n1_
      refine start_ (n := 10) (S := fun w' => w'.cell? ⟨gb183, 0, none⟩ = some (.int .u32 a0_0) ∧ w'.cell? ⟨gb183, 1, none⟩ = some (.int .u16 a0_1)) (ds := []) (bb 10 0) (by kernel_rfl) rfl rfl ⟨(blk_cell BK183.out 0).trans rfl, (blk_cell BK183.out 1).trans rfl⟩ (fun hHeld => ?_); refine with_tabW tell_End.tab1 tell_End.bits1 (fun HT_ HW_ => ?_)
      generalize w6.drew = w7 at BK183 HB hHeld ⊢
      refine pure_ (i := 0) (N := some 3) (v := ?_) (a' := ?_) (bb 10 1) rfl rfl (any_of HT_.out (by kernel_rfl)) (fun _ _ _ h => h) (Or.inl ⟨by rfl, ?_⟩) ?_ ?_
      rotate_left
      · intro w'
        go_simp
        with_reducible rfl
      rotate_left
      · simp only [Act.put, List.setIfInBounds_toArray, List.set_cons_zero, List.set_cons_succ, i64_w, i32_w]
        rfl
      refine pure_ (i := 4) (N := some 7) (v := ?_) (a' := ?_) (bb 10 17) rfl rfl (any_of HT_.out (by kernel_rfl)) (fun _ _ _ h => h) (Or.inl ⟨by rfl, ?_⟩) ?_ ?_
      rotate_left
      · intro w'
        go_simp
        with_reducible rfl
      rotate_left
      · simp only [Act.put, List.setIfInBounds_toArray, List.set_cons_zero, List.set_cons_succ, i64_w, i32_w]
        rfl
      refine take_ (i := 1) (N := some 4) (v := ?_) (a' := ?_) (bb 10 19) rfl rfl (take_ofW HT_.out HW_.out (by kernel_rfl)) (fun _ _ _ h => h) (Or.inl ⟨by rfl, ?_⟩) hHeld ?_ ?_
      rotate_left
      · rintro w' ⟨s0, s1⟩
        go_simp
        with_reducible rfl
      rotate_left
      · simp only [Act.put, List.setIfInBounds_toArray, List.set_cons_zero, List.set_cons_succ, i64_w, i32_w]
        rfl
      refine take_ (i := 5) (N := some 8) (v := ?_) (a' := ?_) (bb 10 51) rfl rfl (take_ofW HT_.out HW_.out (by kernel_rfl)) (fun _ _ _ h => h) (Or.inl ⟨by rfl, ?_⟩) hHeld ?_ ?_
      rotate_left
      · rintro w' ⟨s0, s1⟩
        go_simp
        with_reducible rfl
      rotate_left
      · simp only [Act.put, List.setIfInBounds_toArray, List.set_cons_zero, List.set_cons_succ, i64_w, i32_w]
        rfl
      refine pure_ (i := 6) (N := some 9) (v := ?_) (a' := ?_) (bb 10 115) rfl rfl (any_of HT_.out (by kernel_rfl)) (fun _ _ _ h => h) (Or.inl ⟨by rfl, ?_⟩) ?_ ?_
      rotate_left
      · intro w'
        go_simp
        with_reducible rfl
      rotate_left
      · simp only [Act.put, List.setIfInBounds_toArray, List.set_cons_zero, List.set_cons_succ, i64_w, i32_w]
        rfl
      refine one_ (i := 2) (N := some 5) (bb 10 119) rfl rfl (one_of HT_.out (by kernel_rfl)) (by decide) (fun K hK => ?_)
      refine goes_ Tryd.func17 (by kernel_rfl) rfl #[.int .u32 a0_0] (by rfl) rfl rfl (by (try simp only [List.map_toArray, List.map_cons, List.map_nil]); first | done | rfl | (simp only [List.length_drop, List.length_take]; rfl) | (go_simp; done) | (go_simp; omega)) ?_
      with_reducible refine (addr_Text.calls k a0_0 t184 _ A2.out (ht := (by first | exact HT.out | exact Go.Proofs.YtcebnaknodghcaaDoor.HItoa.Tab.below HT.out (by repeat (first | (with_reducible first | exact HB.out | apply below_alloc | apply pw_below_drewN | apply below_drew1) | exact HB.out))))).mono ?_
      rintro e w8 ⟨rfl, hb⟩
      refine ⟨_, rfl, ?_⟩
      have n0_ := Aside0.mk (blk_below (g := gb183) (o := .cells #[.int .u32 a0_0, .int .u16 a0_1] 50 (0, 0)) (by (with_reducible repeat (first | refine blk_drewN ?_ _ | refine blk_drew ?_ | refine blk_alloc ?_ _)); exact BK183.out) hb)
      have n1_ := Aside0.mk (below_step (by repeat (first | (with_reducible first | exact HB.out | apply below_alloc | apply pw_below_drewN | apply below_drew1 | refine below_set ?_ GE183.out) | exact HB.out)) hb)
      clear BK183
      clear HB
      have BK183 := n0_
      have HB := n1_
      clear n0_ n1_
      (try clear hb)
      (try clear hb2)
      (try clear hk)
      (try clear hi)
      refine hK.out _ _ ⟨(blk_cell BK183.out 0).trans rfl, (blk_cell BK183.out 1).trans rfl⟩ (fun hHeld => ?_)
      clear hK K
      refine norm_ (a' := ?_) ?_ ?_
      rotate_left
      · show Act.put _ (some 5) _ = _
        simp only [Act.put, List.setIfInBounds_toArray, List.set_cons_zero, List.set_cons_succ, i64_w, i32_w]
        rfl
      refine pure_ (i := 3) (N := some 6) (v := ?_) (a' := ?_) (bb 10 127) rfl rfl (any_of HT_.out (by kernel_rfl)) (fun _ _ _ h => h) (Or.inl ⟨by rfl, ?_⟩) ?_ ?_
      rotate_left
      · intro w'
        go_simp
        with_reducible rfl
      rotate_left
      · simp only [Act.put, List.setIfInBounds_toArray, List.set_cons_zero, List.set_cons_succ, i64_w, i32_w]
        rfl
      refine one_ (i := 7) (N := some 10) (bb 10 255) rfl rfl (one_of HT_.out (by kernel_rfl)) (by decide) (fun K hK => ?_)
      refine goes_ Tryd.func57 (by kernel_rfl) rfl #[.int .i64 (wrap64 (a0_1))] (by rfl) rfl rfl (by (try simp only [List.map_toArray, List.map_cons, List.map_nil]); first | done | rfl | (simp only [List.length_drop, List.length_take]; rfl) | (go_simp; done) | (go_simp; omega)) ?_
      with_reducible refine (tell_num.calls (wrap64 (a0_1)) t185 _ A4.out (ht := (by first | exact HT.out | exact Go.Proofs.YtcebnaknodghcaaDoor.HItoa.Tab.below HT.out (by repeat (first | (with_reducible first | exact HB.out | apply below_alloc | apply pw_below_drewN | apply below_drew1) | exact HB.out))))).mono ?_
      rintro e w9 ⟨rfl, hb⟩
      refine ⟨_, rfl, ?_⟩
      have n0_ := Aside0.mk (blk_below (g := gb183) (o := .cells #[.int .u32 a0_0, .int .u16 a0_1] 50 (0, 0)) (by (with_reducible repeat (first | refine blk_drewN ?_ _ | refine blk_drew ?_ | refine blk_alloc ?_ _)); exact BK183.out) hb)
      have n1_ := Aside0.mk (below_step (by repeat (first | (with_reducible first | exact HB.out | apply below_alloc | apply pw_below_drewN | apply below_drew1 | refine below_set ?_ GE183.out) | exact HB.out)) hb)
      clear BK183
      clear HB
      have BK183 := n0_
      have HB := n1_
      clear n0_ n1_
      (try clear hb)
      (try clear hb2)
      (try clear hk)
      (try clear hi)
      refine hK.out _ _ ⟨(blk_cell BK183.out 0).trans rfl, (blk_cell BK183.out 1).trans rfl⟩ (fun hHeld => ?_)
      clear hK K
      refine norm_ (a' := ?_) ?_ ?_
      rotate_left
      · show Act.put _ (some 10) _ = _
        simp only [Act.put, List.setIfInBounds_toArray, List.set_cons_zero, List.set_cons_succ, i64_w, i32_w]
        rfl
      refine pure_ (i := 8) (N := some 11) (v := ?_) (a' := ?_) (bb 10 511) rfl rfl (any_of HT_.out (by kernel_rfl)) (fun _ _ _ h => h) (Or.inl ⟨by rfl, ?_⟩) ?_ ?_
      rotate_left
      · intro w'
        go_simp
        with_reducible rfl
      rotate_left
      · simp only [Act.put, List.setIfInBounds_toArray, List.set_cons_zero, List.set_cons_succ, i64_w, i32_w]
        rfl
      refine pure_ (i := 9) (N := some 2) (v := ?_) (a' := ?_) (bb 10 1023) rfl rfl (any_of HT_.out (by kernel_rfl)) (fun _ _ _ h => h) (Or.inl ⟨by rfl, ?_⟩) ?_ ?_
      rotate_left
      · intro w'
        go_simp
        with_reducible rfl
      rotate_left
      · simp only [Act.put, List.setIfInBounds_toArray, List.set_cons_zero, List.set_cons_succ, i64_w, i32_w]
        rfl
      refine done_ (done_of HT_.out (by kernel_rfl)) ?_
      try go_wp2
      go_ret
      exact ⟨by first | rfl | (simp [errW_none, errW_some] <;> rfl) | (simp [*, errW_none, errW_some] <;> rfl), by repeat (first | (with_reducible first | exact HB.out | apply below_alloc | apply pw_below_drewN | apply below_drew1 | refine below_set ?_ GE183.out) | exact HB.out)⟩
    · rw [if_neg c5] at H
      exact absurd H (by simp)
  · rw [if_neg c3] at H
    exact absurd H (by simp)

/-! ### towroperef04_Number: function 37 -/
def towroperef04_Number.f (_k : Nat) (a0 : Int) : Option (ByteArray) := if -9223372036854775808 ≤ a0 ∧ a0 ≤ 9223372036854775807 then some ⟨(Lib.itoa a0).toArray⟩ else none
theorem towroperef04_Number.mono_l : ∀ k, (∀ y0, LeO (towroperef04_Number.f k y0) (towroperef04_Number.f (k + 1) y0)) := fun _ _ => LeO.refl _
theorem towroperef04_Number.mono : ∀ a0 k, LeO (towroperef04_Number.f k a0) (towroperef04_Number.f (k + 1) a0) := fun _ _ => LeO.refl _
theorem towroperef04_Number.calls (k : Nat) (a0 : Int) (r : ByteArray) (w : World) (h : towroperef04_Number.f k a0 = some r) :
    Calls Tryd.prog 37 #[.int .i64 a0] w fun e w' => e = .returned (.string r) ∧ Below w.heap.size w w' := by
  unfold towroperef04_Number.f at h
  split at h
  · rename_i hb
    obtain rfl := Option.some.inj h
    exact Go.Proofs.YtcebnaknodghcaaDoor.HNumber.calls a0 hb.1 hb.2 w
  · cases h


/-! ### towroperef05_Text: function 19 -/
def towroperef05_Text.f (k : Nat) (a0 : Int) : Option (ByteArray) := (towroperef04_Number.f k (wrap64 (Int.tdiv (wrap64 (a0)) 16777216))).bind fun t188 => (if t188.size + 1 ≤ 9223372036854775807 then ((towroperef04_Number.f k (Int.tmod (wrap64 (Int.tdiv (wrap64 (a0)) 65536)) 256)).bind fun t189 => (if (t188 ++ (⟨#[46]⟩ : ByteArray)).size + t189.size ≤ 9223372036854775807 then (if ((t188 ++ (⟨#[46]⟩ : ByteArray)) ++ t189).size + 1 ≤ 9223372036854775807 then ((towroperef04_Number.f k (Int.tmod (wrap64 (Int.tdiv (wrap64 (a0)) 256)) 256)).bind fun t190 => (if (((t188 ++ (⟨#[46]⟩ : ByteArray)) ++ t189) ++ (⟨#[46]⟩ : ByteArray)).size + t190.size ≤ 9223372036854775807 then (if ((((t188 ++ (⟨#[46]⟩ : ByteArray)) ++ t189) ++ (⟨#[46]⟩ : ByteArray)) ++ t190).size + 1 ≤ 9223372036854775807 then ((towroperef04_Number.f k (Int.tmod (wrap64 (a0)) 256)).bind fun t191 => (if (((((t188 ++ (⟨#[46]⟩ : ByteArray)) ++ t189) ++ (⟨#[46]⟩ : ByteArray)) ++ t190) ++ (⟨#[46]⟩ : ByteArray)).size + t191.size ≤ 9223372036854775807 then (some ((((((t188 ++ (⟨#[46]⟩ : ByteArray)) ++ t189) ++ (⟨#[46]⟩ : ByteArray)) ++ t190) ++ (⟨#[46]⟩ : ByteArray)) ++ t191)) else (none))) else (none)) else (none))) else (none)) else (none))) else (none))
theorem towroperef05_Text.mono : ∀ a0 k, LeO (towroperef05_Text.f k a0) (towroperef05_Text.f (k + 1) a0) := by
  intro a0 k
  unfold towroperef05_Text.f
  repeat' first
      | (with_reducible exact towroperef04_Number.mono _ _)
      | (with_reducible exact LeO.refl _)
      | (with_reducible exact LeO.none _)
      | (with_reducible refine LeO.ite ?_ ?_)
      | (with_reducible refine LeO.bind ?_ (fun _ => ?_))
      | exact towroperef04_Number.mono _ _
      | exact LeO.none _
      | refine LeO.ite ?_ ?_
      | refine LeO.bind ?_ (fun _ => ?_)
set_option maxHeartbeats 8000000 in
set_option maxRecDepth 100000 in
theorem towroperef05_Text.calls (k : Nat) (a0 : Int) (r : ByteArray) (w : World) (h : towroperef05_Text.f k a0 = some r) :
    Calls Tryd.prog 19 #[.int .u32 a0] w fun e w' => e = .returned (.string r) ∧ Below w.heap.size w w' := by
  have HB := Aside0.mk (Below.refl w.heap.size w)
  have H : ((towroperef04_Number.f k (wrap64 (Int.tdiv (wrap64 (a0)) 16777216))).bind fun t188 => (if t188.size + 1 ≤ 9223372036854775807 then ((towroperef04_Number.f k (Int.tmod (wrap64 (Int.tdiv (wrap64 (a0)) 65536)) 256)).bind fun t189 => (if (t188 ++ (⟨#[46]⟩ : ByteArray)).size + t189.size ≤ 9223372036854775807 then (if ((t188 ++ (⟨#[46]⟩ : ByteArray)) ++ t189).size + 1 ≤ 9223372036854775807 then ((towroperef04_Number.f k (Int.tmod (wrap64 (Int.tdiv (wrap64 (a0)) 256)) 256)).bind fun t190 => (if (((t188 ++ (⟨#[46]⟩ : ByteArray)) ++ t189) ++ (⟨#[46]⟩ : ByteArray)).size + t190.size ≤ 9223372036854775807 then (if ((((t188 ++ (⟨#[46]⟩ : ByteArray)) ++ t189) ++ (⟨#[46]⟩ : ByteArray)) ++ t190).size + 1 ≤ 9223372036854775807 then ((towroperef04_Number.f k (Int.tmod (wrap64 (a0)) 256)).bind fun t191 => (if (((((t188 ++ (⟨#[46]⟩ : ByteArray)) ++ t189) ++ (⟨#[46]⟩ : ByteArray)) ++ t190) ++ (⟨#[46]⟩ : ByteArray)).size + t191.size ≤ 9223372036854775807 then (some ((((((t188 ++ (⟨#[46]⟩ : ByteArray)) ++ t189) ++ (⟨#[46]⟩ : ByteArray)) ++ t190) ++ (⟨#[46]⟩ : ByteArray)) ++ t191)) else (none))) else (none)) else (none))) else (none)) else (none))) else (none))) = some r := h
  clear h
  replace H := Option.bind_eq_some_iff.mp H
  obtain ⟨t188, A20, H⟩ := H
  replace H : (if t188.size + 1 ≤ 9223372036854775807 then ((towroperef04_Number.f k (Int.tmod (wrap64 (Int.tdiv (wrap64 (a0)) 65536)) 256)).bind fun t189 => (if (t188 ++ (⟨#[46]⟩ : ByteArray)).size + t189.size ≤ 9223372036854775807 then (if ((t188 ++ (⟨#[46]⟩ : ByteArray)) ++ t189).size + 1 ≤ 9223372036854775807 then ((towroperef04_Number.f k (Int.tmod (wrap64 (Int.tdiv (wrap64 (a0)) 256)) 256)).bind fun t190 => (if (((t188 ++ (⟨#[46]⟩ : ByteArray)) ++ t189) ++ (⟨#[46]⟩ : ByteArray)).size + t190.size ≤ 9223372036854775807 then (if ((((t188 ++ (⟨#[46]⟩ : ByteArray)) ++ t189) ++ (⟨#[46]⟩ : ByteArray)) ++ t190).size + 1 ≤ 9223372036854775807 then ((towroperef04_Number.f k (Int.tmod (wrap64 (a0)) 256)).bind fun t191 => (if (((((t188 ++ (⟨#[46]⟩ : ByteArray)) ++ t189) ++ (⟨#[46]⟩ : ByteArray)) ++ t190) ++ (⟨#[46]⟩ : ByteArray)).size + t191.size ≤ 9223372036854775807 then (some ((((((t188 ++ (⟨#[46]⟩ : ByteArray)) ++ t189) ++ (⟨#[46]⟩ : ByteArray)) ++ t190) ++ (⟨#[46]⟩ : ByteArray)) ++ t191)) else (none))) else (none)) else (none))) else (none)) else (none))) else (none)) = some r := H
  have A2 := Aside0.mk A20
  clear A20
  by_cases c3 : t188.size + 1 ≤ 9223372036854775807
  · rw [if_pos c3] at H
    have c3b0 := eq_true c3
    have c3b1 : decide (t188.size + 1 ≤ 9223372036854775807) = true := decide_eq_true c3
    try have c3b2 : (9223372036854775807 < t188.size + 1) = False := eq_false (Nat.not_lt.2 c3)
    replace H := Option.bind_eq_some_iff.mp H
    obtain ⟨t189, A40, H⟩ := H
    replace H : (if (t188 ++ (⟨#[46]⟩ : ByteArray)).size + t189.size ≤ 9223372036854775807 then (if ((t188 ++ (⟨#[46]⟩ : ByteArray)) ++ t189).size + 1 ≤ 9223372036854775807 then ((towroperef04_Number.f k (Int.tmod (wrap64 (Int.tdiv (wrap64 (a0)) 256)) 256)).bind fun t190 => (if (((t188 ++ (⟨#[46]⟩ : ByteArray)) ++ t189) ++ (⟨#[46]⟩ : ByteArray)).size + t190.size ≤ 9223372036854775807 then (if ((((t188 ++ (⟨#[46]⟩ : ByteArray)) ++ t189) ++ (⟨#[46]⟩ : ByteArray)) ++ t190).size + 1 ≤ 9223372036854775807 then ((towroperef04_Number.f k (Int.tmod (wrap64 (a0)) 256)).bind fun t191 => (if (((((t188 ++ (⟨#[46]⟩ : ByteArray)) ++ t189) ++ (⟨#[46]⟩ : ByteArray)) ++ t190) ++ (⟨#[46]⟩ : ByteArray)).size + t191.size ≤ 9223372036854775807 then (some ((((((t188 ++ (⟨#[46]⟩ : ByteArray)) ++ t189) ++ (⟨#[46]⟩ : ByteArray)) ++ t190) ++ (⟨#[46]⟩ : ByteArray)) ++ t191)) else (none))) else (none)) else (none))) else (none)) else (none)) = some r := H
    have A4 := Aside0.mk A40
    clear A40
    by_cases c5 : (t188 ++ (⟨#[46]⟩ : ByteArray)).size + t189.size ≤ 9223372036854775807
    · rw [if_pos c5] at H
      have c5b0 := eq_true c5
      have c5b1 : decide ((t188 ++ (⟨#[46]⟩ : ByteArray)).size + t189.size ≤ 9223372036854775807) = true := decide_eq_true c5
      try have c5b2 : (9223372036854775807 < (t188 ++ (⟨#[46]⟩ : ByteArray)).size + t189.size) = False := eq_false (Nat.not_lt.2 c5)
      try have c5b2z : (9223372036854775807 < t188.size + 1 + t189.size) = False := eq_false (Nat.not_lt.2 (by have q_ := c5; (try simp only [ByteArray.size_append] at q_); exact q_))
      by_cases c6 : ((t188 ++ (⟨#[46]⟩ : ByteArray)) ++ t189).size + 1 ≤ 9223372036854775807
      · rw [if_pos c6] at H
        have c6b0 := eq_true c6
        have c6b1 : decide (((t188 ++ (⟨#[46]⟩ : ByteArray)) ++ t189).size + 1 ≤ 9223372036854775807) = true := decide_eq_true c6
        try have c6b2 : (9223372036854775807 < ((t188 ++ (⟨#[46]⟩ : ByteArray)) ++ t189).size + 1) = False := eq_false (Nat.not_lt.2 c6)
        try have c6b2z : (9223372036854775807 < t188.size + 1 + t189.size + 1) = False := eq_false (Nat.not_lt.2 (by have q_ := c6; (try simp only [ByteArray.size_append] at q_); exact q_))
        replace H := Option.bind_eq_some_iff.mp H
        obtain ⟨t190, A70, H⟩ := H
        replace H : (if (((t188 ++ (⟨#[46]⟩ : ByteArray)) ++ t189) ++ (⟨#[46]⟩ : ByteArray)).size + t190.size ≤ 9223372036854775807 then (if ((((t188 ++ (⟨#[46]⟩ : ByteArray)) ++ t189) ++ (⟨#[46]⟩ : ByteArray)) ++ t190).size + 1 ≤ 9223372036854775807 then ((towroperef04_Number.f k (Int.tmod (wrap64 (a0)) 256)).bind fun t191 => (if (((((t188 ++ (⟨#[46]⟩ : ByteArray)) ++ t189) ++ (⟨#[46]⟩ : ByteArray)) ++ t190) ++ (⟨#[46]⟩ : ByteArray)).size + t191.size ≤ 9223372036854775807 then (some ((((((t188 ++ (⟨#[46]⟩ : ByteArray)) ++ t189) ++ (⟨#[46]⟩ : ByteArray)) ++ t190) ++ (⟨#[46]⟩ : ByteArray)) ++ t191)) else (none))) else (none)) else (none)) = some r := H
        have A7 := Aside0.mk A70
        clear A70
        by_cases c8 : (((t188 ++ (⟨#[46]⟩ : ByteArray)) ++ t189) ++ (⟨#[46]⟩ : ByteArray)).size + t190.size ≤ 9223372036854775807
        · rw [if_pos c8] at H
          have c8b0 := eq_true c8
          have c8b1 : decide ((((t188 ++ (⟨#[46]⟩ : ByteArray)) ++ t189) ++ (⟨#[46]⟩ : ByteArray)).size + t190.size ≤ 9223372036854775807) = true := decide_eq_true c8
          try have c8b2 : (9223372036854775807 < (((t188 ++ (⟨#[46]⟩ : ByteArray)) ++ t189) ++ (⟨#[46]⟩ : ByteArray)).size + t190.size) = False := eq_false (Nat.not_lt.2 c8)
          try have c8b2z : (9223372036854775807 < t188.size + 1 + t189.size + 1 + t190.size) = False := eq_false (Nat.not_lt.2 (by have q_ := c8; (try simp only [ByteArray.size_append] at q_); exact q_))
          by_cases c9 : ((((t188 ++ (⟨#[46]⟩ : ByteArray)) ++ t189) ++ (⟨#[46]⟩ : ByteArray)) ++ t190).size + 1 ≤ 9223372036854775807
          · rw [if_pos c9] at H
            have c9b0 := eq_true c9
            have c9b1 : decide (((((t188 ++ (⟨#[46]⟩ : ByteArray)) ++ t189) ++ (⟨#[46]⟩ : ByteArray)) ++ t190).size + 1 ≤ 9223372036854775807) = true := decide_eq_true c9
            try have c9b2 : (9223372036854775807 < ((((t188 ++ (⟨#[46]⟩ : ByteArray)) ++ t189) ++ (⟨#[46]⟩ : ByteArray)) ++ t190).size + 1) = False := eq_false (Nat.not_lt.2 c9)
            try have c9b2z : (9223372036854775807 < t188.size + 1 + t189.size + 1 + t190.size + 1) = False := eq_false (Nat.not_lt.2 (by have q_ := c9; (try simp only [ByteArray.size_append] at q_); exact q_))
            replace H := Option.bind_eq_some_iff.mp H
            obtain ⟨t191, A100, H⟩ := H
            replace H : (if (((((t188 ++ (⟨#[46]⟩ : ByteArray)) ++ t189) ++ (⟨#[46]⟩ : ByteArray)) ++ t190) ++ (⟨#[46]⟩ : ByteArray)).size + t191.size ≤ 9223372036854775807 then (some ((((((t188 ++ (⟨#[46]⟩ : ByteArray)) ++ t189) ++ (⟨#[46]⟩ : ByteArray)) ++ t190) ++ (⟨#[46]⟩ : ByteArray)) ++ t191)) else (none)) = some r := H
            have A10 := Aside0.mk A100
            clear A100
            by_cases c11 : (((((t188 ++ (⟨#[46]⟩ : ByteArray)) ++ t189) ++ (⟨#[46]⟩ : ByteArray)) ++ t190) ++ (⟨#[46]⟩ : ByteArray)).size + t191.size ≤ 9223372036854775807
            · rw [if_pos c11] at H
              have c11b0 := eq_true c11
              have c11b1 : decide ((((((t188 ++ (⟨#[46]⟩ : ByteArray)) ++ t189) ++ (⟨#[46]⟩ : ByteArray)) ++ t190) ++ (⟨#[46]⟩ : ByteArray)).size + t191.size ≤ 9223372036854775807) = true := decide_eq_true c11
              try have c11b2 : (9223372036854775807 < (((((t188 ++ (⟨#[46]⟩ : ByteArray)) ++ t189) ++ (⟨#[46]⟩ : ByteArray)) ++ t190) ++ (⟨#[46]⟩ : ByteArray)).size + t191.size) = False := eq_false (Nat.not_lt.2 c11)
              try have c11b2z : (9223372036854775807 < t188.size + 1 + t189.size + 1 + t190.size + 1 + t191.size) = False := eq_false (Nat.not_lt.2 (by have q_ := c11; (try simp only [ByteArray.size_append] at q_); exact q_))
              obtain rfl := Option.some.inj H
              go_enter Tryd.func19, Tryd.ntmps19
              go_wp2_with (first | ((with_reducible refine gate_callee (f := 37) rfl ?_); refine goesL_ (some 8) rfl rfl Tryd.func37 (by kernel_rfl) rfl #[.int .i64 (wrap64 (Int.tdiv (wrap64 (a0)) 16777216))] rfl (by (try simp only [List.map_toArray, List.map_cons, List.map_nil]); first | done | rfl | (simp only [List.length_drop, List.length_take]; rfl) | (go_simp; done) | (go_simp; omega)) ?_; (with_reducible refine (towroperef04_Number.calls k (wrap64 (Int.tdiv (wrap64 (a0)) 16777216)) t188 _ A2.out).mono ?_); rintro e w12 ⟨rfl, hb⟩; refine ⟨_, rfl, ?_⟩; have n0_ := Aside0.mk (below_step (by repeat (first | (with_reducible first | exact HB.out | apply below_alloc | apply pw_below_drewN | apply below_drew1) | exact HB.out)) hb); clear HB; have HB := n0_; clear n0_; (try clear hb); (try clear hb2); (try clear hk); (try clear hi)) | ((with_reducible refine gate_callee (f := 37) rfl ?_); refine goesL_ (some 13) rfl rfl Tryd.func37 (by kernel_rfl) rfl #[.int .i64 (Int.tmod (wrap64 (Int.tdiv (wrap64 (a0)) 65536)) 256)] rfl (by (try simp only [List.map_toArray, List.map_cons, List.map_nil]); first | done | rfl | (simp only [List.length_drop, List.length_take]; rfl) | (go_simp; done) | (go_simp; omega)) ?_; (with_reducible refine (towroperef04_Number.calls k (Int.tmod (wrap64 (Int.tdiv (wrap64 (a0)) 65536)) 256) t189 _ A4.out).mono ?_); rintro e w13 ⟨rfl, hb⟩; refine ⟨_, rfl, ?_⟩; have n0_ := Aside0.mk (below_step (by repeat (first | (with_reducible first | exact HB.out | apply below_alloc | apply pw_below_drewN | apply below_drew1) | exact HB.out)) hb); clear HB; have HB := n0_; clear n0_; (try clear hb); (try clear hb2); (try clear hk); (try clear hi)) | ((with_reducible refine gate_callee (f := 37) rfl ?_); refine goesL_ (some 19) rfl rfl Tryd.func37 (by kernel_rfl) rfl #[.int .i64 (Int.tmod (wrap64 (Int.tdiv (wrap64 (a0)) 256)) 256)] rfl (by (try simp only [List.map_toArray, List.map_cons, List.map_nil]); first | done | rfl | (simp only [List.length_drop, List.length_take]; rfl) | (go_simp; done) | (go_simp; omega)) ?_; (with_reducible refine (towroperef04_Number.calls k (Int.tmod (wrap64 (Int.tdiv (wrap64 (a0)) 256)) 256) t190 _ A7.out).mono ?_); rintro e w14 ⟨rfl, hb⟩; refine ⟨_, rfl, ?_⟩; have n0_ := Aside0.mk (below_step (by repeat (first | (with_reducible first | exact HB.out | apply below_alloc | apply pw_below_drewN | apply below_drew1) | exact HB.out)) hb); clear HB; have HB := n0_; clear n0_; (try clear hb); (try clear hb2); (try clear hk); (try clear hi)) | ((with_reducible refine gate_callee (f := 37) rfl ?_); refine goesL_ (some 24) rfl rfl Tryd.func37 (by kernel_rfl) rfl #[.int .i64 (Int.tmod (wrap64 (a0)) 256)] rfl (by (try simp only [List.map_toArray, List.map_cons, List.map_nil]); first | done | rfl | (simp only [List.length_drop, List.length_take]; rfl) | (go_simp; done) | (go_simp; omega)) ?_; (with_reducible refine (towroperef04_Number.calls k (Int.tmod (wrap64 (a0)) 256) t191 _ A10.out).mono ?_); rintro e w15 ⟨rfl, hb⟩; refine ⟨_, rfl, ?_⟩; have n0_ := Aside0.mk (below_step (by repeat (first | (with_reducible first | exact HB.out | apply below_alloc | apply pw_below_drewN | apply below_drew1) | exact HB.out)) hb); clear HB; have HB := n0_; clear n0_; (try clear hb); (try clear hb2); (try clear hk); (try clear hi)))
              go_ret
              exact ⟨by first | rfl | (simp [errW_none, errW_some] <;> rfl) | (simp [*, errW_none, errW_some] <;> rfl), by repeat (first | (with_reducible first | exact HB.out | apply below_alloc | apply pw_below_drewN | apply below_drew1) | exact HB.out)⟩
            · rw [if_neg c11] at H
              exact absurd H (by simp)
          · rw [if_neg c9] at H
            exact absurd H (by simp)
        · rw [if_neg c8] at H
          exact absurd H (by simp)
      · rw [if_neg c6] at H
        exact absurd H (by simp)
    · rw [if_neg c5] at H
      exact absurd H (by simp)
  · rw [if_neg c3] at H
    exact absurd H (by simp)

/-! ### towroperef34_end: function 67 -/
def towroperef34_end.f (k : Nat) (a0 : Int) (a1 : Int) : Option (ByteArray) := (towroperef05_Text.f k a0).bind fun t192 => (if t192.size + 1 ≤ 9223372036854775807 then ((towroperef04_Number.f k (wrap64 (a1))).bind fun t193 => (if (t192 ++ (⟨#[46]⟩ : ByteArray)).size + t193.size ≤ 9223372036854775807 then (some ((t192 ++ (⟨#[46]⟩ : ByteArray)) ++ t193)) else (none))) else (none))
theorem towroperef34_end.mono : ∀ a0 a1 k, LeO (towroperef34_end.f k a0 a1) (towroperef34_end.f (k + 1) a0 a1) := by
  intro a0 a1 k
  unfold towroperef34_end.f
  repeat' first
      | (with_reducible exact towroperef04_Number.mono _ _)
      | (with_reducible exact towroperef05_Text.mono _ _)
      | (with_reducible exact LeO.refl _)
      | (with_reducible exact LeO.none _)
      | (with_reducible refine LeO.ite ?_ ?_)
      | (with_reducible refine LeO.bind ?_ (fun _ => ?_))
      | exact towroperef04_Number.mono _ _
      | exact towroperef05_Text.mono _ _
      | exact LeO.none _
      | refine LeO.ite ?_ ?_
      | refine LeO.bind ?_ (fun _ => ?_)
set_option maxHeartbeats 8000000 in
set_option maxRecDepth 100000 in
theorem towroperef34_end.calls (k : Nat) (a0 : Int) (a1 : Int) (r : ByteArray) (w : World) (h : towroperef34_end.f k a0 a1 = some r) :
    Calls Tryd.prog 67 #[.int .u32 a0, .int .u16 a1] w fun e w' => e = .returned (.string r) ∧ Below w.heap.size w w' := by
  have HB := Aside0.mk (Below.refl w.heap.size w)
  have H : ((towroperef05_Text.f k a0).bind fun t192 => (if t192.size + 1 ≤ 9223372036854775807 then ((towroperef04_Number.f k (wrap64 (a1))).bind fun t193 => (if (t192 ++ (⟨#[46]⟩ : ByteArray)).size + t193.size ≤ 9223372036854775807 then (some ((t192 ++ (⟨#[46]⟩ : ByteArray)) ++ t193)) else (none))) else (none))) = some r := h
  clear h
  replace H := Option.bind_eq_some_iff.mp H
  obtain ⟨t192, A30, H⟩ := H
  replace H : (if t192.size + 1 ≤ 9223372036854775807 then ((towroperef04_Number.f k (wrap64 (a1))).bind fun t193 => (if (t192 ++ (⟨#[46]⟩ : ByteArray)).size + t193.size ≤ 9223372036854775807 then (some ((t192 ++ (⟨#[46]⟩ : ByteArray)) ++ t193)) else (none))) else (none)) = some r := H
  have A3 := Aside0.mk A30
  clear A30
  by_cases c4 : t192.size + 1 ≤ 9223372036854775807
  · rw [if_pos c4] at H
    have c4b0 := eq_true c4
    have c4b1 : decide (t192.size + 1 ≤ 9223372036854775807) = true := decide_eq_true c4
    try have c4b2 : (9223372036854775807 < t192.size + 1) = False := eq_false (Nat.not_lt.2 c4)
    replace H := Option.bind_eq_some_iff.mp H
    obtain ⟨t193, A50, H⟩ := H
    replace H : (if (t192 ++ (⟨#[46]⟩ : ByteArray)).size + t193.size ≤ 9223372036854775807 then (some ((t192 ++ (⟨#[46]⟩ : ByteArray)) ++ t193)) else (none)) = some r := H
    have A5 := Aside0.mk A50
    clear A50
    by_cases c6 : (t192 ++ (⟨#[46]⟩ : ByteArray)).size + t193.size ≤ 9223372036854775807
    · rw [if_pos c6] at H
      have c6b0 := eq_true c6
      have c6b1 : decide ((t192 ++ (⟨#[46]⟩ : ByteArray)).size + t193.size ≤ 9223372036854775807) = true := decide_eq_true c6
      try have c6b2 : (9223372036854775807 < (t192 ++ (⟨#[46]⟩ : ByteArray)).size + t193.size) = False := eq_false (Nat.not_lt.2 c6)
      try have c6b2z : (9223372036854775807 < t192.size + 1 + t193.size) = False := eq_false (Nat.not_lt.2 (by have q_ := c6; (try simp only [ByteArray.size_append] at q_); exact q_))
      obtain rfl := Option.some.inj H
      go_enter Tryd.func67, Tryd.ntmps67
      go_wp2_with (first | ((with_reducible refine gate_callee (f := 19) rfl ?_); refine goesL_ (some 6) rfl rfl Tryd.func19 (by kernel_rfl) rfl #[.int .u32 a0] rfl (by (try simp only [List.map_toArray, List.map_cons, List.map_nil]); first | done | rfl | (simp only [List.length_drop, List.length_take]; rfl) | (go_simp; done) | (go_simp; omega)) ?_; (with_reducible refine (towroperef05_Text.calls k a0 t192 _ A3.out).mono ?_); rintro e w7 ⟨rfl, hb⟩; refine ⟨_, rfl, ?_⟩; have n0_ := Aside0.mk (below_step (by repeat (first | (with_reducible first | exact HB.out | apply below_alloc | apply pw_below_drewN | apply below_drew1) | exact HB.out)) hb); clear HB; have HB := n0_; clear n0_; (try clear hb); (try clear hb2); (try clear hk); (try clear hi)) | ((with_reducible refine gate_callee (f := 37) rfl ?_); refine goesL_ (some 10) rfl rfl Tryd.func37 (by kernel_rfl) rfl #[.int .i64 (wrap64 (a1))] rfl (by (try simp only [List.map_toArray, List.map_cons, List.map_nil]); first | done | rfl | (simp only [List.length_drop, List.length_take]; rfl) | (go_simp; done) | (go_simp; omega)) ?_; (with_reducible refine (towroperef04_Number.calls k (wrap64 (a1)) t193 _ A5.out).mono ?_); rintro e w8 ⟨rfl, hb⟩; refine ⟨_, rfl, ?_⟩; have n0_ := Aside0.mk (below_step (by repeat (first | (with_reducible first | exact HB.out | apply below_alloc | apply pw_below_drewN | apply below_drew1) | exact HB.out)) hb); clear HB; have HB := n0_; clear n0_; (try clear hb); (try clear hb2); (try clear hk); (try clear hi)))
      go_ret
      exact ⟨by first | rfl | (simp [errW_none, errW_some] <;> rfl) | (simp [*, errW_none, errW_some] <;> rfl), by repeat (first | (with_reducible first | exact HB.out | apply below_alloc | apply pw_below_drewN | apply below_drew1) | exact HB.out)⟩
    · rw [if_neg c6] at H
      exact absurd H (by simp)
  · rw [if_neg c4] at H
    exact absurd H (by simp)

/-! ### towroperef34_End: function 32 -/
def towroperef34_End.f (k : Nat) (a0_0 : Int) (a0_1 : Int) : Option (ByteArray) := (towroperef34_end.f k a0_0 a0_1).bind fun t195 => (some t195)
theorem towroperef34_End.mono : ∀ a0 a1 k, LeO (towroperef34_End.f k a0 a1) (towroperef34_End.f (k + 1) a0 a1) := by
  intro a0 a1 k
  unfold towroperef34_End.f
  repeat' first
      | (with_reducible exact towroperef34_end.mono _ _ _)
      | (with_reducible exact LeO.refl _)
      | (with_reducible exact LeO.none _)
      | (with_reducible refine LeO.ite ?_ ?_)
      | (with_reducible refine LeO.bind ?_ (fun _ => ?_))
      | exact towroperef34_end.mono _ _ _
      | exact LeO.none _
      | refine LeO.ite ?_ ?_
      | refine LeO.bind ?_ (fun _ => ?_)
set_option maxHeartbeats 8000000 in
set_option maxRecDepth 100000 in
theorem towroperef34_End.calls (k : Nat) (a0_0 : Int) (a0_1 : Int) (r : ByteArray) (w : World) (h : towroperef34_End.f k a0_0 a0_1 = some r) :
    Calls Tryd.prog 32 #[.agg #[.int .u32 a0_0, .int .u16 a0_1]] w fun e w' => e = .returned (.string r) ∧ Below w.heap.size w w' := by
  have hu50 := Tryd.underlying50
  have HB := Aside0.mk (Below.refl w.heap.size w)
  have H : ((towroperef34_end.f k a0_0 a0_1).bind fun t195 => (some t195)) = some r := h
  clear h
  replace H := Option.bind_eq_some_iff.mp H
  obtain ⟨t195, A20, H⟩ := H
  replace H : (some t195) = some r := H
  have A2 := Aside0.mk A20
  clear A20
  obtain rfl := Option.some.inj H
  go_enter Tryd.func32, Tryd.ntmps32
  go_wp2_with (first | ((with_reducible refine gate_dst (N := 1) rfl ?_); refine box_event ?hg (N := 1) ?hd (cs := #[.int .u32 a0_0, .int .u16 a0_1]) (t := 50) ?hr ?_; (case hd => rfl); (case hg => rfl); (case hr => first | (go_simp; done) | (go_simp; rfl)); intro gb194 hg w3 hbox hb; have n0_ := Aside0.mk (below_step (by repeat (first | (with_reducible first | exact HB.out | apply below_alloc | apply pw_below_drewN | apply below_drew1) | exact HB.out)) hb); have n1_ := Aside0.mk (hbox); have n2_ := Aside0.mk ((by rw [hg]; exact (below_size (by repeat (first | (with_reducible first | exact HB.out | apply below_alloc | apply pw_below_drewN | apply below_drew1) | exact HB.out))) : w.heap.size ≤ gb194)); have n3_ := Aside0.mk ((by rw [hg]; exact (below_size (by repeat (first | (with_reducible first | exact HB.out | apply below_alloc | apply pw_below_drewN | apply below_drew1) | exact HB.out))) : w.heap.size ≤ gb194)); clear HB; have HB := n0_; have BK194 := n1_; have GW194 := n2_; have GE194 := n3_; clear n0_ n1_ n2_ n3_; clear hb hbox hg; have hcz4_0 : w3.cell? ⟨gb194, 0, none⟩ = some (.int .u32 a0_0) := (blk_cell BK194.out 0).trans rfl; have hcz4_1 : w3.cell? ⟨gb194, 1, none⟩ = some (.int .u16 a0_1) := (blk_cell BK194.out 1).trans rfl; have hfz4_0 := blk_frozen BK194.out 0; have hfz4_1 := blk_frozen BK194.out 1) | ((with_reducible refine gate_callee (f := 67) rfl ?_); refine goesL_ (some 7) rfl rfl Tryd.func67 (by kernel_rfl) rfl #[.int .u32 a0_0, .int .u16 a0_1] rfl (by (try simp only [List.map_toArray, List.map_cons, List.map_nil]); first | done | rfl | (simp only [List.length_drop, List.length_take]; rfl) | (go_simp; done) | (go_simp; omega)) ?_; (with_reducible refine (towroperef34_end.calls k a0_0 a0_1 t195 _ A2.out).mono ?_); rintro e w5 ⟨rfl, hb⟩; refine ⟨_, rfl, ?_⟩; have n0_ := Aside0.mk (blk_below (g := gb194) (o := .cells #[.int .u32 a0_0, .int .u16 a0_1] 50 (0, 0)) (by (with_reducible repeat (first | refine blk_drewN ?_ _ | refine blk_drew ?_ | refine blk_alloc ?_ _)); exact BK194.out) hb); have n1_ := Aside0.mk (below_step (by repeat (first | (with_reducible first | exact HB.out | apply below_alloc | apply pw_below_drewN | apply below_drew1 | refine below_set ?_ GE194.out) | exact HB.out)) hb); clear BK194; clear HB; have BK194 := n0_; have HB := n1_; clear n0_ n1_; (try clear hb); (try clear hb2); (try clear hk); (try clear hi)))
  go_ret
  exact ⟨by first | rfl | (simp [errW_none, errW_some] <;> rfl) | (simp [*, errW_none, errW_some] <;> rfl), by repeat (first | (with_reducible first | exact HB.out | apply below_alloc | apply pw_below_drewN | apply below_drew1 | refine below_set ?_ GE194.out) | exact HB.out)⟩

end Go.Proofs.YtcebnaknodghcaaDoor.PTel
