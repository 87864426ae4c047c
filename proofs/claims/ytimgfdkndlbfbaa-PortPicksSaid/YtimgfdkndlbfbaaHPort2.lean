/- port's functions, by hand: what each answers, what it leaves. Conditions: each theorem's own. -/
import Derived.Test.YtimgfdkndlbfbaaHPort
namespace Go.Proofs.Ytimgfdkndlbfbaa.HPort
open Go.RowKit Go.Proofs.YtimgfdkndlbfbaaW.PrintWords Go.Proofs.YtimgfdkndlbfbaaW.PrintLast Go.Proofs.YtimgfdkndlbfbaaW.PrintMore Go.Proofs.Ytimgfdkndlbfbaa.HMap Go.Maps Go.Proofs.Ytimgfdkndlbfbaa.HReg
set_option linter.unusedVariables false
set_option linter.unusedSimpArgs false
def takenF (s : TS) (a p : Int) : Bool := if a = 0 then decide (0 < (s.fa p).getD 0) else (s.fb (a, p)).isSome || (s.fb (0, p)).isSome
theorem wf0 : (Lit.int .u32 0).wf = true := by decide
set_option maxRecDepth 100000 in
set_option maxHeartbeats 4000000 in
theorem taken_zero {b0 b mb ma mj : Nat} {w : World} {s : TS} (h : Tb b0 w b mb ma mj s) (a p : Int) (ho : okE (a, p)) (ha : a = 0) : Calls Try.prog 89 #[.pointer (some ⟨b, 0, none⟩), .agg #[.int .u32 a, .int .u16 p]] w fun e w' => e = .returned (.bool (takenF s a p)) ∧ Below w.heap.size w w' := by
  have HA := Aside0.mk (show takenF s a p = decide (0 < (s.fa p).getD 0) from if_pos ha)
  have a1 : (a == 0) = true := beq_iff_eq.2 ha
  have a2 : decide (a = 0) = true := decide_eq_true ha
  rw [HA.out]
  clear ha
  obtain ⟨v, hv⟩ : ∃ v, (s.fa p).getD 0 = v := ⟨_, rfl⟩
  rw [hv]
  have HV := Aside0.mk hv
  clear hv
  have H := Aside0.mk h
  have HO := Aside0.mk ho
  clear h ho
  go_enter Try.func89, Try.ntmps89
  go_upto_region 1 with (fail)
  obtain ⟨hg, hB⟩ := boxed1 w (.cells #[.int .u32 a, .int .u16 p] 105)
  generalize w.alloc (.cells #[.int .u32 a, .int .u16 p] 105) = w1 at hg hB ⊢
  have HT := Aside0.mk (H.out.below hB)
  have HB := Aside0.mk hB
  obtain ⟨g, hge⟩ : ∃ g, w.heap.size = g := ⟨_, rfl⟩
  rw [hge] at hg ⊢
  have HG := Aside0.mk hg
  have HGE := Aside0.mk hge
  clear hg hB hge
  have z0 := (blk_cell HG.out 0).trans rfl
  have z1 := (blk_cell HG.out 1).trans rfl
  go_upto_region 2 with (fail)
  clear z0 z1
  refine start_ (n := 9) (S := fun w' => w'.heap[g]? = some (.cells #[.int .u32 a, .int .u16 p] 105 (0, 0)) ∧ Tb b0 w' b mb ma mj s) (ds := []) (bb 9 0) (by kernel_rfl) rfl rfl (⟨HG.out, HT.out.below (below_drew (Below.refl _ _))⟩) (fun hHeld => ?_)
  replace HT := Aside0.mk (HT.out.below (below_drew (Below.refl _ _)))
  replace HG := Aside0.mk (show w1.drew.heap[g]? = _ from HG.out)
  replace HB := Aside0.mk (below_drew HB.out)
  generalize w1.drew = w2 at HT HG HB hHeld ⊢
  refine pure_ (i := 0) (N := some 12) (v := ?_) (a' := ?_) (bb 9 1) rfl rfl (by kernel_rfl) (fun _ _ _ h => h) (Or.inl ⟨by rfl, ?_⟩) ?_ ?_
  rotate_left
  · intro w'
    go_simp
    with_reducible rfl
  rotate_left
  · simp only [Act.put, List.setIfInBounds_toArray, List.set_cons_zero, List.set_cons_succ, i64_w, i32_w]
    rfl
  refine pure_ (i := 1) (N := some 13) (v := ?_) (a' := ?_) (bb 9 3) rfl rfl (by kernel_rfl) (fun _ _ _ h => h) (Or.inl ⟨by rfl, ?_⟩) ?_ ?_
  rotate_left
  · intro w'
    go_simp
    with_reducible rfl
  rotate_left
  · simp only [Act.put, List.setIfInBounds_toArray, List.set_cons_zero, List.set_cons_succ, i64_w, i32_w]
    rfl
  refine pure_ (i := 2) (N := some 14) (v := ?_) (a' := ?_) (bb 9 7) rfl rfl (by kernel_rfl) (fun _ _ _ h => h) (Or.inl ⟨by rfl, ?_⟩) ?_ ?_
  rotate_left
  · intro w'
    go_simp
    with_reducible rfl
  rotate_left
  · simp only [Act.put, List.setIfInBounds_toArray, List.set_cons_zero, List.set_cons_succ, i64_w, i32_w]
    rfl
  refine take_ (i := 3) (N := some 15) (v := ?_) (a' := ?_) (bb 9 15) rfl rfl (by kernel_rfl) (fun _ _ _ h => h) (Or.inl ⟨by rfl, ?_⟩) hHeld ?_ ?_
  rotate_left
  · intro w' hSw
    obtain ⟨hg_, hT_⟩ := hSw
    have z0 := (blk_cell hg_ 0).trans rfl
    have z1 := (blk_cell hg_ 1).trans rfl
    obtain ⟨t0, t1, t2, t3, t4, t5, -⟩ := hT_.cells
    have lk := hT_.lookA HO.out.2
    rw [HV.out] at lk
    go_simp
    with_reducible rfl
  rotate_left
  · simp only [Act.put, List.setIfInBounds_toArray, List.set_cons_zero, List.set_cons_succ, i64_w, i32_w]
    rfl
  refine pure_ (i := 4) (N := some 16) (v := ?_) (a' := ?_) (bb 9 31) rfl rfl (by kernel_rfl) (fun _ _ _ h => h) (Or.inl ⟨by rfl, ?_⟩) ?_ ?_
  rotate_left
  · intro w'
    go_simp
    with_reducible rfl
  rotate_left
  · simp only [Act.put, List.setIfInBounds_toArray, List.set_cons_zero, List.set_cons_succ, i64_w, i32_w]
    rfl
  refine take_ (i := 5) (N := some 17) (v := ?_) (a' := ?_) (bb 9 63) rfl rfl (by kernel_rfl) (fun _ _ _ h => h) (Or.inl ⟨by rfl, ?_⟩) hHeld ?_ ?_
  rotate_left
  · intro w' hSw
    obtain ⟨hg_, hT_⟩ := hSw
    have z0 := (blk_cell hg_ 0).trans rfl
    have z1 := (blk_cell hg_ 1).trans rfl
    obtain ⟨t0, t1, t2, t3, t4, t5, -⟩ := hT_.cells
    have lk := hT_.lookA HO.out.2
    rw [HV.out] at lk
    go_simp
    with_reducible rfl
  rotate_left
  · simp only [Act.put, List.setIfInBounds_toArray, List.set_cons_zero, List.set_cons_succ, i64_w, i32_w]
    rfl
  refine take_ (i := 6) (N := some 18) (v := ?_) (a' := ?_) (bb 9 127) rfl rfl (by kernel_rfl) (fun _ _ _ h => h) (Or.inl ⟨by rfl, ?_⟩) hHeld ?_ ?_
  rotate_left
  · intro w' hSw
    obtain ⟨hg_, hT_⟩ := hSw
    have z0 := (blk_cell hg_ 0).trans rfl
    have z1 := (blk_cell hg_ 1).trans rfl
    obtain ⟨t0, t1, t2, t3, t4, t5, -⟩ := hT_.cells
    have lk := hT_.lookA HO.out.2
    rw [HV.out] at lk
    go_simp
    with_reducible rfl
  rotate_left
  · simp only [Act.put, List.setIfInBounds_toArray, List.set_cons_zero, List.set_cons_succ, i64_w, i32_w]
    rfl
  refine pure_ (i := 7) (N := some 19) (v := ?_) (a' := ?_) (bb 9 255) rfl rfl (by kernel_rfl) (fun _ _ _ h => h) (Or.inl ⟨by rfl, ?_⟩) ?_ ?_
  rotate_left
  · intro w'
    go_simp
    with_reducible rfl
  rotate_left
  · simp only [Act.put, List.setIfInBounds_toArray, List.set_cons_zero, List.set_cons_succ, i64_w, i32_w]
    rfl
  refine pure_ (i := 8) (N := some 4) (v := ?_) (a' := ?_) (bb 9 511) rfl rfl (by kernel_rfl) (fun _ _ _ h => h) (Or.inl ⟨by rfl, ?_⟩) ?_ ?_
  rotate_left
  · intro w'
    go_simp
    with_reducible rfl
  rotate_left
  · simp only [Act.put, List.setIfInBounds_toArray, List.set_cons_zero, List.set_cons_succ, i64_w, i32_w]
    rfl
  refine done_ (by kernel_rfl) ?_
  clear hHeld
  go_wp2
  go_ret
  exact ⟨rfl, HB.out⟩
set_option maxRecDepth 100000 in
set_option maxHeartbeats 4000000 in
theorem taken_other {b0 b mb ma mj : Nat} {w : World} {s : TS} (h : Tb b0 w b mb ma mj s) (a p : Int) (ho : okE (a, p)) (ha : a ≠ 0) : Calls Try.prog 89 #[.pointer (some ⟨b, 0, none⟩), .agg #[.int .u32 a, .int .u16 p]] w fun e w' => e = .returned (.bool (takenF s a p)) ∧ Below w.heap.size w w' := by
  have HA := Aside0.mk (show takenF s a p = ((s.fb (a, p)).isSome || (s.fb (0, p)).isSome) from if_neg ha)
  have a1 : (a == 0) = false := beq_eq_false_iff_ne.2 ha
  have a2 : decide (a = 0) = false := decide_eq_false ha
  rw [HA.out]
  clear ha
  obtain ⟨v1, hv1⟩ : ∃ v, (s.fb (a, p)).getD 0 = v := ⟨_, rfl⟩
  obtain ⟨v2, hv2⟩ : ∃ v, (s.fb (0, p)).getD 0 = v := ⟨_, rfl⟩
  obtain ⟨q1, hq1⟩ : ∃ v, (s.fb (a, p)).isSome = v := ⟨_, rfl⟩
  obtain ⟨q2, hq2⟩ : ∃ v, (s.fb (0, p)).isSome = v := ⟨_, rfl⟩
  rw [hq1, hq2]
  have HV := Aside0.mk (And.intro hv1 (And.intro hv2 (And.intro hq1 hq2)))
  clear hv1 hv2 hq1 hq2
  have H := Aside0.mk h
  have HO := Aside0.mk ho
  clear h ho
  go_enter Try.func89, Try.ntmps89
  go_upto_region 1 with (fail)
  obtain ⟨hg, hB⟩ := boxed1 w (.cells #[.int .u32 a, .int .u16 p] 105)
  generalize w.alloc (.cells #[.int .u32 a, .int .u16 p] 105) = w1 at hg hB ⊢
  have HT := Aside0.mk (H.out.below hB)
  have HB := Aside0.mk hB
  obtain ⟨g, hge⟩ : ∃ g, w.heap.size = g := ⟨_, rfl⟩
  rw [hge] at hg ⊢
  have HG := Aside0.mk hg
  have HGE := Aside0.mk hge
  clear hg hB hge
  have z0 := (blk_cell HG.out 0).trans rfl
  have z1 := (blk_cell HG.out 1).trans rfl
  go_upto_region 3 with (fail)
  clear z0 z1
  refine start_ (n := 11) (S := fun w' => w'.heap[g]? = some (.cells #[.int .u32 a, .int .u16 p] 105 (0, 0)) ∧ Tb b0 w' b mb ma mj s) (ds := []) (bb 11 0) (by kernel_rfl) rfl rfl (⟨HG.out, HT.out.below (below_drew (Below.refl _ _))⟩) (fun hHeld => ?_)
  replace HT := Aside0.mk (HT.out.below (below_drew (Below.refl _ _)))
  replace HG := Aside0.mk (show w1.drew.heap[g]? = _ from HG.out)
  replace HB := Aside0.mk (below_drew HB.out)
  generalize w1.drew = w2 at HT HG HB hHeld ⊢
  refine pure_ (i := 0) (N := some 21) (v := ?_) (a' := ?_) (bb 11 1) rfl rfl (by kernel_rfl) (fun _ _ _ h => h) (Or.inl ⟨by rfl, ?_⟩) ?_ ?_
  rotate_left
  · intro w'
    go_simp
    with_reducible rfl
  rotate_left
  · simp only [Act.put, List.setIfInBounds_toArray, List.set_cons_zero, List.set_cons_succ, i64_w, i32_w]
    rfl
  refine pure_ (i := 1) (N := some 22) (v := ?_) (a' := ?_) (bb 11 3) rfl rfl (by kernel_rfl) (fun _ _ _ h => h) (Or.inl ⟨by rfl, ?_⟩) ?_ ?_
  rotate_left
  · intro w'
    go_simp
    with_reducible rfl
  rotate_left
  · simp only [Act.put, List.setIfInBounds_toArray, List.set_cons_zero, List.set_cons_succ, i64_w, i32_w]
    rfl
  refine pure_ (i := 2) (N := some 23) (v := ?_) (a' := ?_) (bb 11 7) rfl rfl (by kernel_rfl) (fun _ _ _ h => h) (Or.inl ⟨by rfl, ?_⟩) ?_ ?_
  rotate_left
  · intro w'
    go_simp
    with_reducible rfl
  rotate_left
  · simp only [Act.put, List.setIfInBounds_toArray, List.set_cons_zero, List.set_cons_succ, i64_w, i32_w]
    rfl
  refine take_ (i := 3) (N := some 24) (v := ?_) (a' := ?_) (bb 11 15) rfl rfl (by kernel_rfl) (fun _ _ _ h => h) (Or.inl ⟨by rfl, ?_⟩) hHeld ?_ ?_
  rotate_left
  · intro w' hSw
    obtain ⟨hg_, hT_⟩ := hSw
    have z0 := (blk_cell hg_ 0).trans rfl
    have z1 := (blk_cell hg_ 1).trans rfl
    obtain ⟨t0, t1, t2, t3, t4, t5, -⟩ := hT_.cells
    have lk := hT_.lookB HO.out
    rw [HV.out.1, HV.out.2.2.1] at lk
    go_simp
    with_reducible rfl
  rotate_left
  · simp only [Act.put, List.setIfInBounds_toArray, List.set_cons_zero, List.set_cons_succ, i64_w, i32_w]
    rfl
  refine take_ (i := 4) (N := some 25) (v := ?_) (a' := ?_) (bb 11 31) rfl rfl (by kernel_rfl) (fun _ _ _ h => h) (Or.inl ⟨by rfl, ?_⟩) hHeld ?_ ?_
  rotate_left
  · intro w' hSw
    obtain ⟨hg_, hT_⟩ := hSw
    have z0 := (blk_cell hg_ 0).trans rfl
    have z1 := (blk_cell hg_ 1).trans rfl
    obtain ⟨t0, t1, t2, t3, t4, t5, -⟩ := hT_.cells
    have lk := hT_.lookB HO.out
    rw [HV.out.1, HV.out.2.2.1] at lk
    go_simp
    with_reducible rfl
  rotate_left
  · simp only [Act.put, List.setIfInBounds_toArray, List.set_cons_zero, List.set_cons_succ, i64_w, i32_w]
    rfl
  refine take_ (i := 5) (N := some 26) (v := ?_) (a' := ?_) (bb 11 63) rfl rfl (by kernel_rfl) (fun _ _ _ h => h) (Or.inl ⟨by rfl, ?_⟩) hHeld ?_ ?_
  rotate_left
  · intro w' hSw
    obtain ⟨hg_, hT_⟩ := hSw
    have z0 := (blk_cell hg_ 0).trans rfl
    have z1 := (blk_cell hg_ 1).trans rfl
    obtain ⟨t0, t1, t2, t3, t4, t5, -⟩ := hT_.cells
    have lk := hT_.lookB HO.out
    rw [HV.out.1, HV.out.2.2.1] at lk
    go_simp
    with_reducible rfl
  rotate_left
  · simp only [Act.put, List.setIfInBounds_toArray, List.set_cons_zero, List.set_cons_succ, i64_w, i32_w]
    rfl
  refine pure_ (i := 6) (N := some 20) (v := ?_) (a' := ?_) (bb 11 127) rfl rfl (by kernel_rfl) (fun _ _ _ h => h) (Or.inl ⟨by rfl, ?_⟩) ?_ ?_
  rotate_left
  · intro w'
    go_simp
    with_reducible rfl
  rotate_left
  · simp only [Act.put, List.setIfInBounds_toArray, List.set_cons_zero, List.set_cons_succ, i64_w, i32_w]
    rfl
  refine pure_ (i := 7) (N := some 27) (v := ?_) (a' := ?_) (bb 11 255) rfl rfl (by kernel_rfl) (fun _ _ _ h => h) (Or.inl ⟨by rfl, ?_⟩) ?_ ?_
  rotate_left
  · intro w'
    go_simp
    with_reducible rfl
  rotate_left
  · simp only [Act.put, List.setIfInBounds_toArray, List.set_cons_zero, List.set_cons_succ, i64_w, i32_w]
    rfl
  refine pure_ (i := 8) (N := some 28) (v := ?_) (a' := ?_) (bb 11 511) rfl rfl (by kernel_rfl) (fun _ _ _ h => h) (Or.inl ⟨by rfl, ?_⟩) ?_ ?_
  rotate_left
  · intro w'
    go_simp
    with_reducible rfl
  rotate_left
  · simp only [Act.put, List.setIfInBounds_toArray, List.set_cons_zero, List.set_cons_succ, i64_w, i32_w]
    rfl
  refine pure_ (i := 9) (N := some 5) (v := ?_) (a' := ?_) (bb 11 1023) rfl rfl (by kernel_rfl) (fun _ _ _ h => h) (Or.inl ⟨by rfl, ?_⟩) ?_ ?_
  rotate_left
  · intro w'
    go_simp
    with_reducible rfl
  rotate_left
  · simp only [Act.put, List.setIfInBounds_toArray, List.set_cons_zero, List.set_cons_succ, i64_w, i32_w]
    rfl
  refine pure_ (i := 10) (N := some 6) (v := ?_) (a' := ?_) (bb 11 2047) rfl rfl (by kernel_rfl) (fun _ _ _ h => h) (Or.inl ⟨by rfl, ?_⟩) ?_ ?_
  rotate_left
  · intro w'
    go_simp
    with_reducible rfl
  rotate_left
  · simp only [Act.put, List.setIfInBounds_toArray, List.set_cons_zero, List.set_cons_succ, i64_w, i32_w]
    rfl
  refine done_ (by kernel_rfl) ?_
  clear hHeld
  go_upto_region 4 with (fail)
  refine start_ (n := 13) (S := fun w' => w'.heap[g]? = some (.cells #[.int .u32 a, .int .u16 p] 105 (0, 0)) ∧ Tb b0 w' b mb ma mj s) (ds := []) (bb 13 0) (by kernel_rfl) rfl rfl (⟨HG.out, HT.out.below (below_drew (Below.refl _ _))⟩) (fun hHeld => ?_)
  replace HT := Aside0.mk (HT.out.below (below_drew (Below.refl _ _)))
  replace HG := Aside0.mk (show w2.drew.heap[g]? = _ from HG.out)
  replace HB := Aside0.mk (below_drew HB.out)
  generalize w2.drew = w3 at HT HG HB hHeld ⊢
  refine pure_ (i := 0) (N := some 30) (v := ?_) (a' := ?_) (bb 13 1) rfl rfl (by kernel_rfl) (fun _ _ _ h => h) (Or.inl ⟨by rfl, ?_⟩) ?_ ?_
  rotate_left
  · intro w'
    go_simp
    with_reducible rfl
  rotate_left
  · simp only [Act.put, List.setIfInBounds_toArray, List.set_cons_zero, List.set_cons_succ, i64_w, i32_w]
    rfl
  refine pure_ (i := 1) (N := some 31) (v := ?_) (a' := ?_) (bb 13 3) rfl rfl (by kernel_rfl) (fun _ _ _ h => h) (Or.inl ⟨by rfl, ?_⟩) ?_ ?_
  rotate_left
  · intro w'
    go_simp
    with_reducible rfl
  rotate_left
  · simp only [Act.put, List.setIfInBounds_toArray, List.set_cons_zero, List.set_cons_succ, i64_w, i32_w]
    rfl
  refine pure_ (i := 2) (N := some 32) (v := ?_) (a' := ?_) (bb 13 7) rfl rfl (by kernel_rfl) (fun _ _ _ h => h) (Or.inl ⟨by rfl, ?_⟩) ?_ ?_
  rotate_left
  · intro w'
    go_simp
    with_reducible rfl
  rotate_left
  · simp only [Act.put, List.setIfInBounds_toArray, List.set_cons_zero, List.set_cons_succ, i64_w, i32_w]
    rfl
  refine take_ (i := 3) (N := some 33) (v := ?_) (a' := ?_) (bb 13 15) rfl rfl (by kernel_rfl) (fun _ _ _ h => h) (Or.inl ⟨by rfl, ?_⟩) hHeld ?_ ?_
  rotate_left
  · intro w' hSw
    obtain ⟨hg_, hT_⟩ := hSw
    have z0 := (blk_cell hg_ 0).trans rfl
    have z1 := (blk_cell hg_ 1).trans rfl
    obtain ⟨t0, t1, t2, t3, t4, t5, -⟩ := hT_.cells
    have lk := hT_.lookB (a := 0) (p := p) ⟨wf0, HO.out.2⟩
    rw [HV.out.2.1, HV.out.2.2.2] at lk
    go_simp
    with_reducible rfl
  rotate_left
  · simp only [Act.put, List.setIfInBounds_toArray, List.set_cons_zero, List.set_cons_succ, i64_w, i32_w]
    rfl
  refine pure_ (i := 4) (N := some 34) (v := ?_) (a' := ?_) (bb 13 31) rfl rfl (by kernel_rfl) (fun _ _ _ h => h) (Or.inl ⟨by rfl, ?_⟩) ?_ ?_
  rotate_left
  · intro w'
    go_simp
    with_reducible rfl
  rotate_left
  · simp only [Act.put, List.setIfInBounds_toArray, List.set_cons_zero, List.set_cons_succ, i64_w, i32_w]
    rfl
  refine take_ (i := 5) (N := some 35) (v := ?_) (a' := ?_) (bb 13 63) rfl rfl (by kernel_rfl) (fun _ _ _ h => h) (Or.inl ⟨by rfl, ?_⟩) hHeld ?_ ?_
  rotate_left
  · intro w' hSw
    obtain ⟨hg_, hT_⟩ := hSw
    have z0 := (blk_cell hg_ 0).trans rfl
    have z1 := (blk_cell hg_ 1).trans rfl
    obtain ⟨t0, t1, t2, t3, t4, t5, -⟩ := hT_.cells
    have lk := hT_.lookB (a := 0) (p := p) ⟨wf0, HO.out.2⟩
    rw [HV.out.2.1, HV.out.2.2.2] at lk
    go_simp
    with_reducible rfl
  rotate_left
  · simp only [Act.put, List.setIfInBounds_toArray, List.set_cons_zero, List.set_cons_succ, i64_w, i32_w]
    rfl
  refine pure_ (i := 6) (N := some 36) (v := ?_) (a' := ?_) (bb 13 127) rfl rfl (by kernel_rfl) (fun _ _ _ h => h) (Or.inl ⟨by rfl, ?_⟩) ?_ ?_
  rotate_left
  · intro w'
    go_simp
    with_reducible rfl
  rotate_left
  · simp only [Act.put, List.setIfInBounds_toArray, List.set_cons_zero, List.set_cons_succ, i64_w, i32_w]
    rfl
  refine take_ (i := 7) (N := some 37) (v := ?_) (a' := ?_) (bb 13 255) rfl rfl (by kernel_rfl) (fun _ _ _ h => h) (Or.inl ⟨by rfl, ?_⟩) hHeld ?_ ?_
  rotate_left
  · intro w' hSw
    obtain ⟨hg_, hT_⟩ := hSw
    have z0 := (blk_cell hg_ 0).trans rfl
    have z1 := (blk_cell hg_ 1).trans rfl
    obtain ⟨t0, t1, t2, t3, t4, t5, -⟩ := hT_.cells
    have lk := hT_.lookB (a := 0) (p := p) ⟨wf0, HO.out.2⟩
    rw [HV.out.2.1, HV.out.2.2.2] at lk
    go_simp
    with_reducible rfl
  rotate_left
  · simp only [Act.put, List.setIfInBounds_toArray, List.set_cons_zero, List.set_cons_succ, i64_w, i32_w]
    rfl
  refine pure_ (i := 8) (N := some 29) (v := ?_) (a' := ?_) (bb 13 511) rfl rfl (by kernel_rfl) (fun _ _ _ h => h) (Or.inl ⟨by rfl, ?_⟩) ?_ ?_
  rotate_left
  · intro w'
    go_simp
    with_reducible rfl
  rotate_left
  · simp only [Act.put, List.setIfInBounds_toArray, List.set_cons_zero, List.set_cons_succ, i64_w, i32_w]
    rfl
  refine pure_ (i := 9) (N := some 38) (v := ?_) (a' := ?_) (bb 13 1023) rfl rfl (by kernel_rfl) (fun _ _ _ h => h) (Or.inl ⟨by rfl, ?_⟩) ?_ ?_
  rotate_left
  · intro w'
    go_simp
    with_reducible rfl
  rotate_left
  · simp only [Act.put, List.setIfInBounds_toArray, List.set_cons_zero, List.set_cons_succ, i64_w, i32_w]
    rfl
  refine pure_ (i := 10) (N := some 39) (v := ?_) (a' := ?_) (bb 13 2047) rfl rfl (by kernel_rfl) (fun _ _ _ h => h) (Or.inl ⟨by rfl, ?_⟩) ?_ ?_
  rotate_left
  · intro w'
    go_simp
    with_reducible rfl
  rotate_left
  · simp only [Act.put, List.setIfInBounds_toArray, List.set_cons_zero, List.set_cons_succ, i64_w, i32_w]
    rfl
  refine pure_ (i := 11) (N := some 7) (v := ?_) (a' := ?_) (bb 13 4095) rfl rfl (by kernel_rfl) (fun _ _ _ h => h) (Or.inl ⟨by rfl, ?_⟩) ?_ ?_
  rotate_left
  · intro w'
    go_simp
    with_reducible rfl
  rotate_left
  · simp only [Act.put, List.setIfInBounds_toArray, List.set_cons_zero, List.set_cons_succ, i64_w, i32_w]
    rfl
  refine pure_ (i := 12) (N := some 8) (v := ?_) (a' := ?_) (bb 13 8191) rfl rfl (by kernel_rfl) (fun _ _ _ h => h) (Or.inl ⟨by rfl, ?_⟩) ?_ ?_
  rotate_left
  · intro w'
    go_simp
    with_reducible rfl
  rotate_left
  · simp only [Act.put, List.setIfInBounds_toArray, List.set_cons_zero, List.set_cons_succ, i64_w, i32_w]
    rfl
  refine done_ (by kernel_rfl) ?_
  clear hHeld
  cases q1
  all_goals
    go_wp2
    go_ret
    exact ⟨rfl, HB.out⟩
theorem taken_any {b0 b mb ma mj : Nat} {w : World} {s : TS} (h : Tb b0 w b mb ma mj s) (a p : Int) (ho : okE (a, p)) : Calls Try.prog 89 #[.pointer (some ⟨b, 0, none⟩), .agg #[.int .u32 a, .int .u16 p]] w fun e w' => e = .returned (.bool (takenF s a p)) ∧ Below w.heap.size w w' := by
  by_cases ha : a = 0
  · exact taken_zero h a p ho ha
  · exact taken_other h a p ho ha
set_option maxRecDepth 100000 in
set_option maxHeartbeats 4000000 in
theorem talks_any {b0 b mb ma mj : Nat} {w : World} {s : TS} (h : Tb b0 w b mb ma mj s) (a p c d : Int) (ho : okQ ((a, p), (c, d))) : Calls Try.prog 51 #[.pointer (some ⟨b, 0, none⟩), .agg #[.int .u32 a, .int .u16 p, .int .u32 c, .int .u16 d]] w fun e w' => e = .returned (.tuple #[.int .i64 ((s.fj ((a, p), (c, d))).getD 0), .bool (s.fj ((a, p), (c, d))).isSome]) ∧ Below w.heap.size w w' := by
  obtain ⟨v1, hv1⟩ : ∃ v_, (s.fj ((a, p), (c, d))).getD 0 = v_ := ⟨_, rfl⟩
  obtain ⟨q1, hq1⟩ : ∃ v_, (s.fj ((a, p), (c, d))).isSome = v_ := ⟨_, rfl⟩
  simp only [hv1, hq1]
  have HV := Aside0.mk (And.intro hv1 (And.intro hq1 (trivial)))
  clear hv1 hq1
  have H := Aside0.mk h
  have HO := Aside0.mk ho
  clear h ho
  go_enter Try.func51, Try.ntmps51
  go_upto_region 1 with (fail)
  obtain ⟨hg, hB⟩ := boxed1 w (.cells #[.int .u32 a, .int .u16 p, .int .u32 c, .int .u16 d] 107)
  generalize w.alloc (.cells #[.int .u32 a, .int .u16 p, .int .u32 c, .int .u16 d] 107) = w1 at hg hB ⊢
  have HT := Aside0.mk (H.out.below hB)
  have HB := Aside0.mk hB
  obtain ⟨g, hge⟩ : ∃ g, w.heap.size = g := ⟨_, rfl⟩
  rw [hge] at hg ⊢
  have HG := Aside0.mk hg
  have HGE := Aside0.mk hge
  clear hg hB hge
  go_upto_region 3 with (fail)
  refine start_ (n := 11) (S := fun w' => w'.heap[g]? = some (.cells #[.int .u32 a, .int .u16 p, .int .u32 c, .int .u16 d] 107 (0, 0)) ∧ Tb b0 w' b mb ma mj s) (ds := []) (bb 11 0) (by kernel_rfl) rfl rfl (⟨HG.out, HT.out.below (below_drew (Below.refl _ _))⟩) (fun hHeld => ?_)
  replace HT := Aside0.mk (HT.out.below (below_drew (Below.refl _ _)))
  replace HG := Aside0.mk (show w1.drew.heap[g]? = _ from HG.out)
  replace HB := Aside0.mk (below_drew HB.out)
  generalize w1.drew = w2 at HT HG HB hHeld ⊢
  refine pure_ (i := 0) (N := some 11) (v := ?_) (a' := ?_) (bb 11 1) rfl rfl (by kernel_rfl) (fun _ _ _ h => h) (Or.inl ⟨by rfl, ?_⟩) ?_ ?_
  rotate_left
  · intro w'
    go_simp
    with_reducible rfl
  rotate_left
  · simp only [Act.put, List.setIfInBounds_toArray, List.set_cons_zero, List.set_cons_succ, i64_w, i32_w]
    rfl
  refine pure_ (i := 1) (N := some 12) (v := ?_) (a' := ?_) (bb 11 3) rfl rfl (by kernel_rfl) (fun _ _ _ h => h) (Or.inl ⟨by rfl, ?_⟩) ?_ ?_
  rotate_left
  · intro w'
    go_simp
    with_reducible rfl
  rotate_left
  · simp only [Act.put, List.setIfInBounds_toArray, List.set_cons_zero, List.set_cons_succ, i64_w, i32_w]
    rfl
  refine pure_ (i := 2) (N := some 13) (v := ?_) (a' := ?_) (bb 11 7) rfl rfl (by kernel_rfl) (fun _ _ _ h => h) (Or.inl ⟨by rfl, ?_⟩) ?_ ?_
  rotate_left
  · intro w'
    go_simp
    with_reducible rfl
  rotate_left
  · simp only [Act.put, List.setIfInBounds_toArray, List.set_cons_zero, List.set_cons_succ, i64_w, i32_w]
    rfl
  refine take_ (i := 3) (N := some 14) (v := ?_) (a' := ?_) (bb 11 15) rfl rfl (by kernel_rfl) (fun _ _ _ h => h) (Or.inl ⟨by rfl, ?_⟩) hHeld ?_ ?_
  rotate_left
  · intro w' hSw
    obtain ⟨hg_, hT_⟩ := hSw
    have z0 := (blk_cell hg_ 0).trans rfl
    have z1 := (blk_cell hg_ 1).trans rfl
    have z2 := (blk_cell hg_ 2).trans rfl
    have z3 := (blk_cell hg_ 3).trans rfl
    obtain ⟨t0, t1, t2, t3, t4, t5, -⟩ := hT_.cells
    have lk := hT_.lookJ HO.out
    rw [HV.out.1, HV.out.2.1] at lk
    go_simp
    with_reducible rfl
  rotate_left
  · simp only [Act.put, List.setIfInBounds_toArray, List.set_cons_zero, List.set_cons_succ, i64_w, i32_w]
    rfl
  refine take_ (i := 4) (N := some 15) (v := ?_) (a' := ?_) (bb 11 31) rfl rfl (by kernel_rfl) (fun _ _ _ h => h) (Or.inl ⟨by rfl, ?_⟩) hHeld ?_ ?_
  rotate_left
  · intro w' hSw
    obtain ⟨hg_, hT_⟩ := hSw
    have z0 := (blk_cell hg_ 0).trans rfl
    have z1 := (blk_cell hg_ 1).trans rfl
    have z2 := (blk_cell hg_ 2).trans rfl
    have z3 := (blk_cell hg_ 3).trans rfl
    obtain ⟨t0, t1, t2, t3, t4, t5, -⟩ := hT_.cells
    have lk := hT_.lookJ HO.out
    rw [HV.out.1, HV.out.2.1] at lk
    go_simp
    with_reducible rfl
  rotate_left
  · simp only [Act.put, List.setIfInBounds_toArray, List.set_cons_zero, List.set_cons_succ, i64_w, i32_w]
    rfl
  refine take_ (i := 5) (N := some 16) (v := ?_) (a' := ?_) (bb 11 63) rfl rfl (by kernel_rfl) (fun _ _ _ h => h) (Or.inl ⟨by rfl, ?_⟩) hHeld ?_ ?_
  rotate_left
  · intro w' hSw
    obtain ⟨hg_, hT_⟩ := hSw
    have z0 := (blk_cell hg_ 0).trans rfl
    have z1 := (blk_cell hg_ 1).trans rfl
    have z2 := (blk_cell hg_ 2).trans rfl
    have z3 := (blk_cell hg_ 3).trans rfl
    obtain ⟨t0, t1, t2, t3, t4, t5, -⟩ := hT_.cells
    have lk := hT_.lookJ HO.out
    rw [HV.out.1, HV.out.2.1] at lk
    go_simp
    with_reducible rfl
  rotate_left
  · simp only [Act.put, List.setIfInBounds_toArray, List.set_cons_zero, List.set_cons_succ, i64_w, i32_w]
    rfl
  refine pure_ (i := 6) (N := some 10) (v := ?_) (a' := ?_) (bb 11 127) rfl rfl (by kernel_rfl) (fun _ _ _ h => h) (Or.inl ⟨by rfl, ?_⟩) ?_ ?_
  rotate_left
  · intro w'
    go_simp
    with_reducible rfl
  rotate_left
  · simp only [Act.put, List.setIfInBounds_toArray, List.set_cons_zero, List.set_cons_succ, i64_w, i32_w]
    rfl
  refine pure_ (i := 7) (N := some 17) (v := ?_) (a' := ?_) (bb 11 255) rfl rfl (by kernel_rfl) (fun _ _ _ h => h) (Or.inl ⟨by rfl, ?_⟩) ?_ ?_
  rotate_left
  · intro w'
    go_simp
    with_reducible rfl
  rotate_left
  · simp only [Act.put, List.setIfInBounds_toArray, List.set_cons_zero, List.set_cons_succ, i64_w, i32_w]
    rfl
  refine pure_ (i := 8) (N := some 18) (v := ?_) (a' := ?_) (bb 11 511) rfl rfl (by kernel_rfl) (fun _ _ _ h => h) (Or.inl ⟨by rfl, ?_⟩) ?_ ?_
  rotate_left
  · intro w'
    go_simp
    with_reducible rfl
  rotate_left
  · simp only [Act.put, List.setIfInBounds_toArray, List.set_cons_zero, List.set_cons_succ, i64_w, i32_w]
    rfl
  refine pure_ (i := 9) (N := some 6) (v := ?_) (a' := ?_) (bb 11 1023) rfl rfl (by kernel_rfl) (fun _ _ _ h => h) (Or.inl ⟨by rfl, ?_⟩) ?_ ?_
  rotate_left
  · intro w'
    go_simp
    with_reducible rfl
  rotate_left
  · simp only [Act.put, List.setIfInBounds_toArray, List.set_cons_zero, List.set_cons_succ, i64_w, i32_w]
    rfl
  refine pure_ (i := 10) (N := some 7) (v := ?_) (a' := ?_) (bb 11 2047) rfl rfl (by kernel_rfl) (fun _ _ _ h => h) (Or.inl ⟨by rfl, ?_⟩) ?_ ?_
  rotate_left
  · intro w'
    go_simp
    with_reducible rfl
  rotate_left
  · simp only [Act.put, List.setIfInBounds_toArray, List.set_cons_zero, List.set_cons_succ, i64_w, i32_w]
    rfl
  refine done_ (by kernel_rfl) ?_
  clear hHeld
  go_wp2
  go_ret2
  exact ⟨rfl, HB.out⟩
def ownerF (s : TS) (a p : Int) : Int × Bool := if (s.fb (a, p)).isSome then ((s.fb (a, p)).getD 0, true) else ((s.fb (0, p)).getD 0, (s.fb (0, p)).isSome)
set_option maxRecDepth 100000 in
set_option maxHeartbeats 4000000 in
theorem owner_here {b0 b mb ma mj : Nat} {w : World} {s : TS} (h : Tb b0 w b mb ma mj s) (a p : Int) (ho : okE (a, p)) (hq : (s.fb (a, p)).isSome = true) : Calls Try.prog 49 #[.pointer (some ⟨b, 0, none⟩), .agg #[.int .u32 a, .int .u16 p]] w fun e w' => e = .returned (.tuple #[.int .i64 (ownerF s a p).1, .bool (ownerF s a p).2]) ∧ Below w.heap.size w w' := by
  rw [show ownerF s a p = ((s.fb (a, p)).getD 0, true) from if_pos hq]
  have HQ := Aside0.mk hq
  clear hq
  obtain ⟨v1, hv1⟩ : ∃ v_, (s.fb (a, p)).getD 0 = v_ := ⟨_, rfl⟩
  simp only [hv1]
  have HV := Aside0.mk (And.intro hv1 (trivial))
  clear hv1
  have H := Aside0.mk h
  have HO := Aside0.mk ho
  clear h ho
  go_enter Try.func49, Try.ntmps49
  go_upto_region 1 with (fail)
  obtain ⟨hg, hB⟩ := boxed1 w (.cells #[.int .u32 a, .int .u16 p] 105)
  generalize w.alloc (.cells #[.int .u32 a, .int .u16 p] 105) = w1 at hg hB ⊢
  have HT := Aside0.mk (H.out.below hB)
  have HB := Aside0.mk hB
  obtain ⟨g, hge⟩ : ∃ g, w.heap.size = g := ⟨_, rfl⟩
  rw [hge] at hg ⊢
  have HG := Aside0.mk hg
  have HGE := Aside0.mk hge
  clear hg hB hge
  go_upto_region 3 with (fail)
  refine start_ (n := 11) (S := fun w' => w'.heap[g]? = some (.cells #[.int .u32 a, .int .u16 p] 105 (0, 0)) ∧ Tb b0 w' b mb ma mj s) (ds := []) (bb 11 0) (by kernel_rfl) rfl rfl (⟨HG.out, HT.out.below (below_drew (Below.refl _ _))⟩) (fun hHeld => ?_)
  replace HT := Aside0.mk (HT.out.below (below_drew (Below.refl _ _)))
  replace HG := Aside0.mk (show w1.drew.heap[g]? = _ from HG.out)
  replace HB := Aside0.mk (below_drew HB.out)
  generalize w1.drew = w2 at HT HG HB hHeld ⊢
  refine pure_ (i := 0) (N := some 13) (v := ?_) (a' := ?_) (bb 11 1) rfl rfl (by kernel_rfl) (fun _ _ _ h => h) (Or.inl ⟨by rfl, ?_⟩) ?_ ?_
  rotate_left
  · intro w'
    go_simp
    with_reducible rfl
  rotate_left
  · simp only [Act.put, List.setIfInBounds_toArray, List.set_cons_zero, List.set_cons_succ, i64_w, i32_w]
    rfl
  refine pure_ (i := 1) (N := some 14) (v := ?_) (a' := ?_) (bb 11 3) rfl rfl (by kernel_rfl) (fun _ _ _ h => h) (Or.inl ⟨by rfl, ?_⟩) ?_ ?_
  rotate_left
  · intro w'
    go_simp
    with_reducible rfl
  rotate_left
  · simp only [Act.put, List.setIfInBounds_toArray, List.set_cons_zero, List.set_cons_succ, i64_w, i32_w]
    rfl
  refine pure_ (i := 2) (N := some 15) (v := ?_) (a' := ?_) (bb 11 7) rfl rfl (by kernel_rfl) (fun _ _ _ h => h) (Or.inl ⟨by rfl, ?_⟩) ?_ ?_
  rotate_left
  · intro w'
    go_simp
    with_reducible rfl
  rotate_left
  · simp only [Act.put, List.setIfInBounds_toArray, List.set_cons_zero, List.set_cons_succ, i64_w, i32_w]
    rfl
  refine take_ (i := 3) (N := some 16) (v := ?_) (a' := ?_) (bb 11 15) rfl rfl (by kernel_rfl) (fun _ _ _ h => h) (Or.inl ⟨by rfl, ?_⟩) hHeld ?_ ?_
  rotate_left
  · intro w' hSw
    obtain ⟨hg_, hT_⟩ := hSw
    have z0 := (blk_cell hg_ 0).trans rfl
    have z1 := (blk_cell hg_ 1).trans rfl
    obtain ⟨t0, t1, t2, t3, t4, t5, -⟩ := hT_.cells
    have lk := hT_.lookB HO.out
    rw [HV.out.1, HQ.out] at lk
    go_simp
    with_reducible rfl
  rotate_left
  · simp only [Act.put, List.setIfInBounds_toArray, List.set_cons_zero, List.set_cons_succ, i64_w, i32_w]
    rfl
  refine take_ (i := 4) (N := some 17) (v := ?_) (a' := ?_) (bb 11 31) rfl rfl (by kernel_rfl) (fun _ _ _ h => h) (Or.inl ⟨by rfl, ?_⟩) hHeld ?_ ?_
  rotate_left
  · intro w' hSw
    obtain ⟨hg_, hT_⟩ := hSw
    have z0 := (blk_cell hg_ 0).trans rfl
    have z1 := (blk_cell hg_ 1).trans rfl
    obtain ⟨t0, t1, t2, t3, t4, t5, -⟩ := hT_.cells
    have lk := hT_.lookB HO.out
    rw [HV.out.1, HQ.out] at lk
    go_simp
    with_reducible rfl
  rotate_left
  · simp only [Act.put, List.setIfInBounds_toArray, List.set_cons_zero, List.set_cons_succ, i64_w, i32_w]
    rfl
  refine take_ (i := 5) (N := some 18) (v := ?_) (a' := ?_) (bb 11 63) rfl rfl (by kernel_rfl) (fun _ _ _ h => h) (Or.inl ⟨by rfl, ?_⟩) hHeld ?_ ?_
  rotate_left
  · intro w' hSw
    obtain ⟨hg_, hT_⟩ := hSw
    have z0 := (blk_cell hg_ 0).trans rfl
    have z1 := (blk_cell hg_ 1).trans rfl
    obtain ⟨t0, t1, t2, t3, t4, t5, -⟩ := hT_.cells
    have lk := hT_.lookB HO.out
    rw [HV.out.1, HQ.out] at lk
    go_simp
    with_reducible rfl
  rotate_left
  · simp only [Act.put, List.setIfInBounds_toArray, List.set_cons_zero, List.set_cons_succ, i64_w, i32_w]
    rfl
  refine pure_ (i := 6) (N := some 12) (v := ?_) (a' := ?_) (bb 11 127) rfl rfl (by kernel_rfl) (fun _ _ _ h => h) (Or.inl ⟨by rfl, ?_⟩) ?_ ?_
  rotate_left
  · intro w'
    go_simp
    with_reducible rfl
  rotate_left
  · simp only [Act.put, List.setIfInBounds_toArray, List.set_cons_zero, List.set_cons_succ, i64_w, i32_w]
    rfl
  refine pure_ (i := 7) (N := some 19) (v := ?_) (a' := ?_) (bb 11 255) rfl rfl (by kernel_rfl) (fun _ _ _ h => h) (Or.inl ⟨by rfl, ?_⟩) ?_ ?_
  rotate_left
  · intro w'
    go_simp
    with_reducible rfl
  rotate_left
  · simp only [Act.put, List.setIfInBounds_toArray, List.set_cons_zero, List.set_cons_succ, i64_w, i32_w]
    rfl
  refine pure_ (i := 8) (N := some 20) (v := ?_) (a' := ?_) (bb 11 511) rfl rfl (by kernel_rfl) (fun _ _ _ h => h) (Or.inl ⟨by rfl, ?_⟩) ?_ ?_
  rotate_left
  · intro w'
    go_simp
    with_reducible rfl
  rotate_left
  · simp only [Act.put, List.setIfInBounds_toArray, List.set_cons_zero, List.set_cons_succ, i64_w, i32_w]
    rfl
  refine pure_ (i := 9) (N := some 6) (v := ?_) (a' := ?_) (bb 11 1023) rfl rfl (by kernel_rfl) (fun _ _ _ h => h) (Or.inl ⟨by rfl, ?_⟩) ?_ ?_
  rotate_left
  · intro w'
    go_simp
    with_reducible rfl
  rotate_left
  · simp only [Act.put, List.setIfInBounds_toArray, List.set_cons_zero, List.set_cons_succ, i64_w, i32_w]
    rfl
  refine pure_ (i := 10) (N := some 7) (v := ?_) (a' := ?_) (bb 11 2047) rfl rfl (by kernel_rfl) (fun _ _ _ h => h) (Or.inl ⟨by rfl, ?_⟩) ?_ ?_
  rotate_left
  · intro w'
    go_simp
    with_reducible rfl
  rotate_left
  · simp only [Act.put, List.setIfInBounds_toArray, List.set_cons_zero, List.set_cons_succ, i64_w, i32_w]
    rfl
  refine done_ (by kernel_rfl) ?_
  clear hHeld
  go_wp2
  go_ret2
  exact ⟨rfl, HB.out⟩
set_option maxRecDepth 100000 in
set_option maxHeartbeats 4000000 in
theorem owner_all {b0 b mb ma mj : Nat} {w : World} {s : TS} (h : Tb b0 w b mb ma mj s) (a p : Int) (ho : okE (a, p)) (hq : (s.fb (a, p)).isSome = false) : Calls Try.prog 49 #[.pointer (some ⟨b, 0, none⟩), .agg #[.int .u32 a, .int .u16 p]] w fun e w' => e = .returned (.tuple #[.int .i64 (ownerF s a p).1, .bool (ownerF s a p).2]) ∧ Below w.heap.size w w' := by
  rw [show ownerF s a p = ((s.fb (0, p)).getD 0, (s.fb (0, p)).isSome) from if_neg (by rw [hq]; decide)]
  have HQ := Aside0.mk hq
  clear hq
  obtain ⟨v2, hv2⟩ : ∃ v_, (s.fb (0, p)).getD 0 = v_ := ⟨_, rfl⟩
  obtain ⟨q2, hq2⟩ : ∃ v_, (s.fb (0, p)).isSome = v_ := ⟨_, rfl⟩
  simp only [hv2, hq2]
  have HV := Aside0.mk (And.intro hv2 (And.intro hq2 (trivial)))
  clear hv2 hq2
  obtain ⟨v1, hv1⟩ : ∃ v, (s.fb (a, p)).getD 0 = v := ⟨_, rfl⟩
  have HV1 := Aside0.mk hv1
  clear hv1
  have H := Aside0.mk h
  have HO := Aside0.mk ho
  clear h ho
  go_enter Try.func49, Try.ntmps49
  go_upto_region 1 with (fail)
  obtain ⟨hg, hB⟩ := boxed1 w (.cells #[.int .u32 a, .int .u16 p] 105)
  generalize w.alloc (.cells #[.int .u32 a, .int .u16 p] 105) = w1 at hg hB ⊢
  have HT := Aside0.mk (H.out.below hB)
  have HB := Aside0.mk hB
  obtain ⟨g, hge⟩ : ∃ g, w.heap.size = g := ⟨_, rfl⟩
  rw [hge] at hg ⊢
  have HG := Aside0.mk hg
  have HGE := Aside0.mk hge
  clear hg hB hge
  go_upto_region 3 with (fail)
  refine start_ (n := 11) (S := fun w' => w'.heap[g]? = some (.cells #[.int .u32 a, .int .u16 p] 105 (0, 0)) ∧ Tb b0 w' b mb ma mj s) (ds := []) (bb 11 0) (by kernel_rfl) rfl rfl (⟨HG.out, HT.out.below (below_drew (Below.refl _ _))⟩) (fun hHeld => ?_)
  replace HT := Aside0.mk (HT.out.below (below_drew (Below.refl _ _)))
  replace HG := Aside0.mk (show w1.drew.heap[g]? = _ from HG.out)
  replace HB := Aside0.mk (below_drew HB.out)
  generalize w1.drew = w2 at HT HG HB hHeld ⊢
  refine pure_ (i := 0) (N := some 13) (v := ?_) (a' := ?_) (bb 11 1) rfl rfl (by kernel_rfl) (fun _ _ _ h => h) (Or.inl ⟨by rfl, ?_⟩) ?_ ?_
  rotate_left
  · intro w'
    go_simp
    with_reducible rfl
  rotate_left
  · simp only [Act.put, List.setIfInBounds_toArray, List.set_cons_zero, List.set_cons_succ, i64_w, i32_w]
    rfl
  refine pure_ (i := 1) (N := some 14) (v := ?_) (a' := ?_) (bb 11 3) rfl rfl (by kernel_rfl) (fun _ _ _ h => h) (Or.inl ⟨by rfl, ?_⟩) ?_ ?_
  rotate_left
  · intro w'
    go_simp
    with_reducible rfl
  rotate_left
  · simp only [Act.put, List.setIfInBounds_toArray, List.set_cons_zero, List.set_cons_succ, i64_w, i32_w]
    rfl
  refine pure_ (i := 2) (N := some 15) (v := ?_) (a' := ?_) (bb 11 7) rfl rfl (by kernel_rfl) (fun _ _ _ h => h) (Or.inl ⟨by rfl, ?_⟩) ?_ ?_
  rotate_left
  · intro w'
    go_simp
    with_reducible rfl
  rotate_left
  · simp only [Act.put, List.setIfInBounds_toArray, List.set_cons_zero, List.set_cons_succ, i64_w, i32_w]
    rfl
  refine take_ (i := 3) (N := some 16) (v := ?_) (a' := ?_) (bb 11 15) rfl rfl (by kernel_rfl) (fun _ _ _ h => h) (Or.inl ⟨by rfl, ?_⟩) hHeld ?_ ?_
  rotate_left
  · intro w' hSw
    obtain ⟨hg_, hT_⟩ := hSw
    have z0 := (blk_cell hg_ 0).trans rfl
    have z1 := (blk_cell hg_ 1).trans rfl
    obtain ⟨t0, t1, t2, t3, t4, t5, -⟩ := hT_.cells
    have lk := hT_.lookB HO.out
    rw [HV1.out, HQ.out] at lk
    go_simp
    with_reducible rfl
  rotate_left
  · simp only [Act.put, List.setIfInBounds_toArray, List.set_cons_zero, List.set_cons_succ, i64_w, i32_w]
    rfl
  refine take_ (i := 4) (N := some 17) (v := ?_) (a' := ?_) (bb 11 31) rfl rfl (by kernel_rfl) (fun _ _ _ h => h) (Or.inl ⟨by rfl, ?_⟩) hHeld ?_ ?_
  rotate_left
  · intro w' hSw
    obtain ⟨hg_, hT_⟩ := hSw
    have z0 := (blk_cell hg_ 0).trans rfl
    have z1 := (blk_cell hg_ 1).trans rfl
    obtain ⟨t0, t1, t2, t3, t4, t5, -⟩ := hT_.cells
    have lk := hT_.lookB HO.out
    rw [HV1.out, HQ.out] at lk
    go_simp
    with_reducible rfl
  rotate_left
  · simp only [Act.put, List.setIfInBounds_toArray, List.set_cons_zero, List.set_cons_succ, i64_w, i32_w]
    rfl
  refine take_ (i := 5) (N := some 18) (v := ?_) (a' := ?_) (bb 11 63) rfl rfl (by kernel_rfl) (fun _ _ _ h => h) (Or.inl ⟨by rfl, ?_⟩) hHeld ?_ ?_
  rotate_left
  · intro w' hSw
    obtain ⟨hg_, hT_⟩ := hSw
    have z0 := (blk_cell hg_ 0).trans rfl
    have z1 := (blk_cell hg_ 1).trans rfl
    obtain ⟨t0, t1, t2, t3, t4, t5, -⟩ := hT_.cells
    have lk := hT_.lookB HO.out
    rw [HV1.out, HQ.out] at lk
    go_simp
    with_reducible rfl
  rotate_left
  · simp only [Act.put, List.setIfInBounds_toArray, List.set_cons_zero, List.set_cons_succ, i64_w, i32_w]
    rfl
  refine pure_ (i := 6) (N := some 12) (v := ?_) (a' := ?_) (bb 11 127) rfl rfl (by kernel_rfl) (fun _ _ _ h => h) (Or.inl ⟨by rfl, ?_⟩) ?_ ?_
  rotate_left
  · intro w'
    go_simp
    with_reducible rfl
  rotate_left
  · simp only [Act.put, List.setIfInBounds_toArray, List.set_cons_zero, List.set_cons_succ, i64_w, i32_w]
    rfl
  refine pure_ (i := 7) (N := some 19) (v := ?_) (a' := ?_) (bb 11 255) rfl rfl (by kernel_rfl) (fun _ _ _ h => h) (Or.inl ⟨by rfl, ?_⟩) ?_ ?_
  rotate_left
  · intro w'
    go_simp
    with_reducible rfl
  rotate_left
  · simp only [Act.put, List.setIfInBounds_toArray, List.set_cons_zero, List.set_cons_succ, i64_w, i32_w]
    rfl
  refine pure_ (i := 8) (N := some 20) (v := ?_) (a' := ?_) (bb 11 511) rfl rfl (by kernel_rfl) (fun _ _ _ h => h) (Or.inl ⟨by rfl, ?_⟩) ?_ ?_
  rotate_left
  · intro w'
    go_simp
    with_reducible rfl
  rotate_left
  · simp only [Act.put, List.setIfInBounds_toArray, List.set_cons_zero, List.set_cons_succ, i64_w, i32_w]
    rfl
  refine pure_ (i := 9) (N := some 6) (v := ?_) (a' := ?_) (bb 11 1023) rfl rfl (by kernel_rfl) (fun _ _ _ h => h) (Or.inl ⟨by rfl, ?_⟩) ?_ ?_
  rotate_left
  · intro w'
    go_simp
    with_reducible rfl
  rotate_left
  · simp only [Act.put, List.setIfInBounds_toArray, List.set_cons_zero, List.set_cons_succ, i64_w, i32_w]
    rfl
  refine pure_ (i := 10) (N := some 7) (v := ?_) (a' := ?_) (bb 11 2047) rfl rfl (by kernel_rfl) (fun _ _ _ h => h) (Or.inl ⟨by rfl, ?_⟩) ?_ ?_
  rotate_left
  · intro w'
    go_simp
    with_reducible rfl
  rotate_left
  · simp only [Act.put, List.setIfInBounds_toArray, List.set_cons_zero, List.set_cons_succ, i64_w, i32_w]
    rfl
  refine done_ (by kernel_rfl) ?_
  clear hHeld
  go_upto_region 6 with (fail)
  refine start_ (n := 13) (S := fun w' => w'.heap[g]? = some (.cells #[.int .u32 a, .int .u16 p] 105 (0, 0)) ∧ Tb b0 w' b mb ma mj s) (ds := []) (bb 13 0) (by kernel_rfl) rfl rfl (⟨HG.out, HT.out.below (below_drew (Below.refl _ _))⟩) (fun hHeld => ?_)
  replace HT := Aside0.mk (HT.out.below (below_drew (Below.refl _ _)))
  replace HG := Aside0.mk (show w2.drew.heap[g]? = _ from HG.out)
  replace HB := Aside0.mk (below_drew HB.out)
  generalize w2.drew = w3 at HT HG HB hHeld ⊢
  refine pure_ (i := 0) (N := some 24) (v := ?_) (a' := ?_) (bb 13 1) rfl rfl (by kernel_rfl) (fun _ _ _ h => h) (Or.inl ⟨by rfl, ?_⟩) ?_ ?_
  rotate_left
  · intro w'
    go_simp
    with_reducible rfl
  rotate_left
  · simp only [Act.put, List.setIfInBounds_toArray, List.set_cons_zero, List.set_cons_succ, i64_w, i32_w]
    rfl
  refine pure_ (i := 1) (N := some 25) (v := ?_) (a' := ?_) (bb 13 3) rfl rfl (by kernel_rfl) (fun _ _ _ h => h) (Or.inl ⟨by rfl, ?_⟩) ?_ ?_
  rotate_left
  · intro w'
    go_simp
    with_reducible rfl
  rotate_left
  · simp only [Act.put, List.setIfInBounds_toArray, List.set_cons_zero, List.set_cons_succ, i64_w, i32_w]
    rfl
  refine pure_ (i := 2) (N := some 26) (v := ?_) (a' := ?_) (bb 13 7) rfl rfl (by kernel_rfl) (fun _ _ _ h => h) (Or.inl ⟨by rfl, ?_⟩) ?_ ?_
  rotate_left
  · intro w'
    go_simp
    with_reducible rfl
  rotate_left
  · simp only [Act.put, List.setIfInBounds_toArray, List.set_cons_zero, List.set_cons_succ, i64_w, i32_w]
    rfl
  refine take_ (i := 3) (N := some 27) (v := ?_) (a' := ?_) (bb 13 15) rfl rfl (by kernel_rfl) (fun _ _ _ h => h) (Or.inl ⟨by rfl, ?_⟩) hHeld ?_ ?_
  rotate_left
  · intro w' hSw
    obtain ⟨hg_, hT_⟩ := hSw
    have z0 := (blk_cell hg_ 0).trans rfl
    have z1 := (blk_cell hg_ 1).trans rfl
    obtain ⟨t0, t1, t2, t3, t4, t5, -⟩ := hT_.cells
    have lk := hT_.lookB (a := 0) (p := p) ⟨wf0, HO.out.2⟩
    rw [HV.out.1, HV.out.2.1] at lk
    go_simp
    with_reducible rfl
  rotate_left
  · simp only [Act.put, List.setIfInBounds_toArray, List.set_cons_zero, List.set_cons_succ, i64_w, i32_w]
    rfl
  refine pure_ (i := 4) (N := some 28) (v := ?_) (a' := ?_) (bb 13 31) rfl rfl (by kernel_rfl) (fun _ _ _ h => h) (Or.inl ⟨by rfl, ?_⟩) ?_ ?_
  rotate_left
  · intro w'
    go_simp
    with_reducible rfl
  rotate_left
  · simp only [Act.put, List.setIfInBounds_toArray, List.set_cons_zero, List.set_cons_succ, i64_w, i32_w]
    rfl
  refine take_ (i := 5) (N := some 29) (v := ?_) (a' := ?_) (bb 13 63) rfl rfl (by kernel_rfl) (fun _ _ _ h => h) (Or.inl ⟨by rfl, ?_⟩) hHeld ?_ ?_
  rotate_left
  · intro w' hSw
    obtain ⟨hg_, hT_⟩ := hSw
    have z0 := (blk_cell hg_ 0).trans rfl
    have z1 := (blk_cell hg_ 1).trans rfl
    obtain ⟨t0, t1, t2, t3, t4, t5, -⟩ := hT_.cells
    have lk := hT_.lookB (a := 0) (p := p) ⟨wf0, HO.out.2⟩
    rw [HV.out.1, HV.out.2.1] at lk
    go_simp
    with_reducible rfl
  rotate_left
  · simp only [Act.put, List.setIfInBounds_toArray, List.set_cons_zero, List.set_cons_succ, i64_w, i32_w]
    rfl
  refine pure_ (i := 6) (N := some 30) (v := ?_) (a' := ?_) (bb 13 127) rfl rfl (by kernel_rfl) (fun _ _ _ h => h) (Or.inl ⟨by rfl, ?_⟩) ?_ ?_
  rotate_left
  · intro w'
    go_simp
    with_reducible rfl
  rotate_left
  · simp only [Act.put, List.setIfInBounds_toArray, List.set_cons_zero, List.set_cons_succ, i64_w, i32_w]
    rfl
  refine take_ (i := 7) (N := some 31) (v := ?_) (a' := ?_) (bb 13 255) rfl rfl (by kernel_rfl) (fun _ _ _ h => h) (Or.inl ⟨by rfl, ?_⟩) hHeld ?_ ?_
  rotate_left
  · intro w' hSw
    obtain ⟨hg_, hT_⟩ := hSw
    have z0 := (blk_cell hg_ 0).trans rfl
    have z1 := (blk_cell hg_ 1).trans rfl
    obtain ⟨t0, t1, t2, t3, t4, t5, -⟩ := hT_.cells
    have lk := hT_.lookB (a := 0) (p := p) ⟨wf0, HO.out.2⟩
    rw [HV.out.1, HV.out.2.1] at lk
    go_simp
    with_reducible rfl
  rotate_left
  · simp only [Act.put, List.setIfInBounds_toArray, List.set_cons_zero, List.set_cons_succ, i64_w, i32_w]
    rfl
  refine pure_ (i := 8) (N := some 23) (v := ?_) (a' := ?_) (bb 13 511) rfl rfl (by kernel_rfl) (fun _ _ _ h => h) (Or.inl ⟨by rfl, ?_⟩) ?_ ?_
  rotate_left
  · intro w'
    go_simp
    with_reducible rfl
  rotate_left
  · simp only [Act.put, List.setIfInBounds_toArray, List.set_cons_zero, List.set_cons_succ, i64_w, i32_w]
    rfl
  refine pure_ (i := 9) (N := some 32) (v := ?_) (a' := ?_) (bb 13 1023) rfl rfl (by kernel_rfl) (fun _ _ _ h => h) (Or.inl ⟨by rfl, ?_⟩) ?_ ?_
  rotate_left
  · intro w'
    go_simp
    with_reducible rfl
  rotate_left
  · simp only [Act.put, List.setIfInBounds_toArray, List.set_cons_zero, List.set_cons_succ, i64_w, i32_w]
    rfl
  refine pure_ (i := 10) (N := some 33) (v := ?_) (a' := ?_) (bb 13 2047) rfl rfl (by kernel_rfl) (fun _ _ _ h => h) (Or.inl ⟨by rfl, ?_⟩) ?_ ?_
  rotate_left
  · intro w'
    go_simp
    with_reducible rfl
  rotate_left
  · simp only [Act.put, List.setIfInBounds_toArray, List.set_cons_zero, List.set_cons_succ, i64_w, i32_w]
    rfl
  refine pure_ (i := 11) (N := some 8) (v := ?_) (a' := ?_) (bb 13 4095) rfl rfl (by kernel_rfl) (fun _ _ _ h => h) (Or.inl ⟨by rfl, ?_⟩) ?_ ?_
  rotate_left
  · intro w'
    go_simp
    with_reducible rfl
  rotate_left
  · simp only [Act.put, List.setIfInBounds_toArray, List.set_cons_zero, List.set_cons_succ, i64_w, i32_w]
    rfl
  refine pure_ (i := 12) (N := some 9) (v := ?_) (a' := ?_) (bb 13 8191) rfl rfl (by kernel_rfl) (fun _ _ _ h => h) (Or.inl ⟨by rfl, ?_⟩) ?_ ?_
  rotate_left
  · intro w'
    go_simp
    with_reducible rfl
  rotate_left
  · simp only [Act.put, List.setIfInBounds_toArray, List.set_cons_zero, List.set_cons_succ, i64_w, i32_w]
    rfl
  refine done_ (by kernel_rfl) ?_
  clear hHeld
  go_wp2
  go_ret2
  exact ⟨rfl, HB.out⟩
theorem owner_any {b0 b mb ma mj : Nat} {w : World} {s : TS} (h : Tb b0 w b mb ma mj s) (a p : Int) (ho : okE (a, p)) : Calls Try.prog 49 #[.pointer (some ⟨b, 0, none⟩), .agg #[.int .u32 a, .int .u16 p]] w fun e w' => e = .returned (.tuple #[.int .i64 (ownerF s a p).1, .bool (ownerF s a p).2]) ∧ Below w.heap.size w w' := by
  cases hq : (s.fb (a, p)).isSome with
  | true => exact owner_here h a p ho hq
  | false => exact owner_all h a p ho hq
def findF (s : TS) (a p c d : Int) : Int × Bool × Bool := if (s.fj ((a, p), (c, d))).isSome then ((s.fj ((a, p), (c, d))).getD 0, true, true) else ((ownerF s a p).1, false, (ownerF s a p).2)
set_option maxRecDepth 100000 in
set_option maxHeartbeats 4000000 in
theorem find_joined {b0 b mb ma mj : Nat} {w : World} {s : TS} (h : Tb b0 w b mb ma mj s) (a p c d : Int) (ho : okQ ((a, p), (c, d))) (hq : (s.fj ((a, p), (c, d))).isSome = true) : Calls Try.prog 53 #[.pointer (some ⟨b, 0, none⟩), .agg #[.int .u32 a, .int .u16 p, .int .u32 c, .int .u16 d]] w fun e w' => e = .returned (.tuple #[.int .i64 (findF s a p c d).1, .bool (findF s a p c d).2.1, .bool (findF s a p c d).2.2]) ∧ Below w.heap.size w w' := by
  rw [show findF s a p c d = ((s.fj ((a, p), (c, d))).getD 0, true, true) from if_pos hq]
  have HQ := Aside0.mk hq
  clear hq
  have H := Aside0.mk h
  have HO := Aside0.mk ho
  clear h ho
  go_enter Try.func53, Try.ntmps53
  go_upto_region 1 with (fail)
  obtain ⟨hg, hB⟩ := boxed1 w (.cells #[.int .u32 a, .int .u16 p, .int .u32 c, .int .u16 d] 107)
  generalize w.alloc (.cells #[.int .u32 a, .int .u16 p, .int .u32 c, .int .u16 d] 107) = w1 at hg hB ⊢
  have HT := Aside0.mk (H.out.below hB)
  have HB := Aside0.mk hB
  obtain ⟨g, hge⟩ : ∃ g, w.heap.size = g := ⟨_, rfl⟩
  rw [hge] at hg ⊢
  have HG := Aside0.mk hg
  have HGE := Aside0.mk hge
  clear hg hB hge
  have z0 := (blk_cell HG.out 0).trans rfl
  have z1 := (blk_cell HG.out 1).trans rfl
  have z2 := (blk_cell HG.out 2).trans rfl
  have z3 := (blk_cell HG.out 3).trans rfl
  go_wp2_with (go_at_call 51; refine (talks_any HT.out a p c d HO.out).mono ?_; rintro e w2 ⟨rfl, hB⟩; rw [HQ.out]; replace HT := Aside0.mk (HT.out.below hB); replace HG := Aside0.mk (blk_below HG.out hB); replace HB := Aside0.mk (below_step HB.out hB); clear hB z0 z1 z2 z3; have z0 := (blk_cell HG.out 0).trans rfl; have z1 := (blk_cell HG.out 1).trans rfl)
  go_ret3
  exact ⟨rfl, HB.out⟩
set_option maxRecDepth 100000 in
set_option maxHeartbeats 4000000 in
theorem find_bound {b0 b mb ma mj : Nat} {w : World} {s : TS} (h : Tb b0 w b mb ma mj s) (a p c d : Int) (ho : okQ ((a, p), (c, d))) (hq : (s.fj ((a, p), (c, d))).isSome = false) : Calls Try.prog 53 #[.pointer (some ⟨b, 0, none⟩), .agg #[.int .u32 a, .int .u16 p, .int .u32 c, .int .u16 d]] w fun e w' => e = .returned (.tuple #[.int .i64 (findF s a p c d).1, .bool (findF s a p c d).2.1, .bool (findF s a p c d).2.2]) ∧ Below w.heap.size w w' := by
  rw [show findF s a p c d = ((ownerF s a p).1, false, (ownerF s a p).2) from if_neg (by rw [hq]; decide)]
  have HQ := Aside0.mk hq
  clear hq
  have H := Aside0.mk h
  have HO := Aside0.mk ho
  clear h ho
  go_enter Try.func53, Try.ntmps53
  go_upto_region 1 with (fail)
  obtain ⟨hg, hB⟩ := boxed1 w (.cells #[.int .u32 a, .int .u16 p, .int .u32 c, .int .u16 d] 107)
  generalize w.alloc (.cells #[.int .u32 a, .int .u16 p, .int .u32 c, .int .u16 d] 107) = w1 at hg hB ⊢
  have HT := Aside0.mk (H.out.below hB)
  have HB := Aside0.mk hB
  obtain ⟨g, hge⟩ : ∃ g, w.heap.size = g := ⟨_, rfl⟩
  rw [hge] at hg ⊢
  have HG := Aside0.mk hg
  have HGE := Aside0.mk hge
  clear hg hB hge
  have z0 := (blk_cell HG.out 0).trans rfl
  have z1 := (blk_cell HG.out 1).trans rfl
  have z2 := (blk_cell HG.out 2).trans rfl
  have z3 := (blk_cell HG.out 3).trans rfl
  go_wp2_with (first | (go_at_call 51; refine (talks_any HT.out a p c d HO.out).mono ?_; rintro e w2 ⟨rfl, hB⟩; rw [HQ.out]; replace HT := Aside0.mk (HT.out.below hB); replace HG := Aside0.mk (blk_below HG.out hB); replace HB := Aside0.mk (below_step HB.out hB); clear hB z0 z1 z2 z3; have z0 := (blk_cell HG.out 0).trans rfl; have z1 := (blk_cell HG.out 1).trans rfl) | (go_at_call 49; refine (owner_any HT.out a p HO.out.1).mono ?_; rintro e w3 ⟨rfl, hB⟩; replace HB := Aside0.mk (below_step HB.out hB); clear hB))
  go_ret3
  exact ⟨rfl, HB.out⟩
theorem find_any {b0 b mb ma mj : Nat} {w : World} {s : TS} (h : Tb b0 w b mb ma mj s) (a p c d : Int) (ho : okQ ((a, p), (c, d))) : Calls Try.prog 53 #[.pointer (some ⟨b, 0, none⟩), .agg #[.int .u32 a, .int .u16 p, .int .u32 c, .int .u16 d]] w fun e w' => e = .returned (.tuple #[.int .i64 (findF s a p c d).1, .bool (findF s a p c d).2.1, .bool (findF s a p c d).2.2]) ∧ Below w.heap.size w w' := by
  cases hq : (s.fj ((a, p), (c, d))).isSome with
  | true => exact find_joined h a p c d ho hq
  | false => exact find_bound h a p c d ho hq
set_option maxRecDepth 100000 in
set_option maxHeartbeats 4000000 in
theorem len_any {b0 b mb ma mj : Nat} {w : World} {s : TS} (h : Tb b0 w b mb ma mj s)  : Calls Try.prog 57 #[.pointer (some ⟨b, 0, none⟩)] w fun e w' => e = .returned (.tuple #[.int .i64 s.nb, .int .i64 s.nj]) ∧ Below w.heap.size w w' := by
  have HT := Aside0.mk h
  have HB := Aside0.mk (Below.refl w.heap.size w)
  clear h
  go_enter Try.func57, Try.ntmps57
  go_upto_region 3 with (fail)
  refine start_ (n := 12) (S := fun w' => Tb b0 w' b mb ma mj s) (ds := []) (bb 12 0) (by kernel_rfl) rfl rfl (HT.out.below (below_drew (Below.refl _ _))) (fun hHeld => ?_)
  refine pure_ (i := 0) (N := some 6) (v := ?_) (a' := ?_) (bb 12 1) rfl rfl (by kernel_rfl) (fun _ _ _ h => h) (Or.inl ⟨by rfl, ?_⟩) ?_ ?_
  rotate_left
  · intro w'
    go_simp
    with_reducible rfl
  rotate_left
  · simp only [Act.put, List.setIfInBounds_toArray, List.set_cons_zero, List.set_cons_succ, i64_w, i32_w]
    rfl
  refine pure_ (i := 1) (N := some 7) (v := ?_) (a' := ?_) (bb 12 3) rfl rfl (by kernel_rfl) (fun _ _ _ h => h) (Or.inl ⟨by rfl, ?_⟩) ?_ ?_
  rotate_left
  · intro w'
    go_simp
    with_reducible rfl
  rotate_left
  · simp only [Act.put, List.setIfInBounds_toArray, List.set_cons_zero, List.set_cons_succ, i64_w, i32_w]
    rfl
  refine pure_ (i := 2) (N := some 8) (v := ?_) (a' := ?_) (bb 12 7) rfl rfl (by kernel_rfl) (fun _ _ _ h => h) (Or.inl ⟨by rfl, ?_⟩) ?_ ?_
  rotate_left
  · intro w'
    go_simp
    with_reducible rfl
  rotate_left
  · simp only [Act.put, List.setIfInBounds_toArray, List.set_cons_zero, List.set_cons_succ, i64_w, i32_w]
    rfl
  refine take_ (i := 3) (N := some 9) (v := ?_) (a' := ?_) (bb 12 15) rfl rfl (by kernel_rfl) (fun _ _ _ h => h) (Or.inl ⟨by rfl, ?_⟩) hHeld ?_ ?_
  rotate_left
  · intro w' hSw
    obtain ⟨t0, t1, t2, t3, t4, t5, -⟩ := hSw.cells
    have l1 := hSw.lenB 3
    have l2 := hSw.lenJ 3
    go_simp
    with_reducible rfl
  rotate_left
  · simp only [Act.put, List.setIfInBounds_toArray, List.set_cons_zero, List.set_cons_succ, i64_w, i32_w]
    rfl
  refine take_ (i := 4) (N := some 10) (v := ?_) (a' := ?_) (bb 12 31) rfl rfl (by kernel_rfl) (fun _ _ _ h => h) (Or.inl ⟨by rfl, ?_⟩) hHeld ?_ ?_
  rotate_left
  · intro w' hSw
    obtain ⟨t0, t1, t2, t3, t4, t5, -⟩ := hSw.cells
    have l1 := hSw.lenB 3
    have l2 := hSw.lenJ 3
    go_simp
    with_reducible rfl
  rotate_left
  · simp only [Act.put, List.setIfInBounds_toArray, List.set_cons_zero, List.set_cons_succ, i64_w, i32_w]
    rfl
  refine pure_ (i := 5) (N := some 11) (v := ?_) (a' := ?_) (bb 12 63) rfl rfl (by kernel_rfl) (fun _ _ _ h => h) (Or.inl ⟨by rfl, ?_⟩) ?_ ?_
  rotate_left
  · intro w'
    go_simp
    with_reducible rfl
  rotate_left
  · simp only [Act.put, List.setIfInBounds_toArray, List.set_cons_zero, List.set_cons_succ, i64_w, i32_w]
    rfl
  refine pure_ (i := 6) (N := some 12) (v := ?_) (a' := ?_) (bb 12 127) rfl rfl (by kernel_rfl) (fun _ _ _ h => h) (Or.inl ⟨by rfl, ?_⟩) ?_ ?_
  rotate_left
  · intro w'
    go_simp
    with_reducible rfl
  rotate_left
  · simp only [Act.put, List.setIfInBounds_toArray, List.set_cons_zero, List.set_cons_succ, i64_w, i32_w]
    rfl
  refine pure_ (i := 7) (N := some 13) (v := ?_) (a' := ?_) (bb 12 255) rfl rfl (by kernel_rfl) (fun _ _ _ h => h) (Or.inl ⟨by rfl, ?_⟩) ?_ ?_
  rotate_left
  · intro w'
    go_simp
    with_reducible rfl
  rotate_left
  · simp only [Act.put, List.setIfInBounds_toArray, List.set_cons_zero, List.set_cons_succ, i64_w, i32_w]
    rfl
  refine take_ (i := 8) (N := some 14) (v := ?_) (a' := ?_) (bb 12 511) rfl rfl (by kernel_rfl) (fun _ _ _ h => h) (Or.inl ⟨by rfl, ?_⟩) hHeld ?_ ?_
  rotate_left
  · intro w' hSw
    obtain ⟨t0, t1, t2, t3, t4, t5, -⟩ := hSw.cells
    have l1 := hSw.lenB 3
    have l2 := hSw.lenJ 3
    go_simp
    with_reducible rfl
  rotate_left
  · simp only [Act.put, List.setIfInBounds_toArray, List.set_cons_zero, List.set_cons_succ, i64_w, i32_w]
    rfl
  refine take_ (i := 9) (N := some 15) (v := ?_) (a' := ?_) (bb 12 1023) rfl rfl (by kernel_rfl) (fun _ _ _ h => h) (Or.inl ⟨by rfl, ?_⟩) hHeld ?_ ?_
  rotate_left
  · intro w' hSw
    obtain ⟨t0, t1, t2, t3, t4, t5, -⟩ := hSw.cells
    have l1 := hSw.lenB 3
    have l2 := hSw.lenJ 3
    go_simp
    with_reducible rfl
  rotate_left
  · simp only [Act.put, List.setIfInBounds_toArray, List.set_cons_zero, List.set_cons_succ, i64_w, i32_w]
    rfl
  refine pure_ (i := 10) (N := some 2) (v := ?_) (a' := ?_) (bb 12 2047) rfl rfl (by kernel_rfl) (fun _ _ _ h => h) (Or.inl ⟨by rfl, ?_⟩) ?_ ?_
  rotate_left
  · intro w'
    go_simp
    with_reducible rfl
  rotate_left
  · simp only [Act.put, List.setIfInBounds_toArray, List.set_cons_zero, List.set_cons_succ, i64_w, i32_w]
    rfl
  refine pure_ (i := 11) (N := some 3) (v := ?_) (a' := ?_) (bb 12 4095) rfl rfl (by kernel_rfl) (fun _ _ _ h => h) (Or.inl ⟨by rfl, ?_⟩) ?_ ?_
  rotate_left
  · intro w'
    go_simp
    with_reducible rfl
  rotate_left
  · simp only [Act.put, List.setIfInBounds_toArray, List.set_cons_zero, List.set_cons_succ, i64_w, i32_w]
    rfl
  refine done_ (by kernel_rfl) ?_
  go_wp2
  go_ret2
  exact ⟨rfl, below_drew (Below.refl _ _)⟩
end Go.Proofs.Ytimgfdkndlbfbaa.HPort
