/- port's functions that turn a table: New, Bind, Unbind, Pick, Join, Part; and all of them at nil. Conditions: each theorem's own. -/
import Derived.Test.YtimgfdkndlbfbaaHPort2
namespace Go.Proofs.Ytimgfdkndlbfbaa.HPort
open Go.RowKit Go.Proofs.YtimgfdkndlbfbaaW.PrintWords Go.Proofs.YtimgfdkndlbfbaaW.PrintLast Go.Proofs.YtimgfdkndlbfbaaW.PrintMore Go.Proofs.Ytimgfdkndlbfbaa.HMap Go.Maps Go.Proofs.Ytimgfdkndlbfbaa.HReg
set_option linter.unusedVariables false
set_option linter.unusedSimpArgs false
set_option maxRecDepth 100000 in
set_option maxHeartbeats 4000000 in
theorem bind_zero {b0 b mb ma mj : Nat} {w : World} {s : TS} (h : Tb b0 w b mb ma mj s) (a p o : Int) (ho : okE (a, p)) (hp : p = 0) : Calls Try.prog 55 #[.pointer (some ⟨b, 0, none⟩), .agg #[.int .u32 a, .int .u16 p], .int .i64 o] w fun e w' => e = .returned (.int .i64 8) ∧ Below w.heap.size w w' := by
  have p1 : (p == 0) = true := beq_iff_eq.2 hp
  have p2 : decide (p = 0) = true := decide_eq_true hp
  clear hp
  have H := Aside0.mk h
  have HO := Aside0.mk ho
  clear h ho
  go_enter Try.func55, Try.ntmps55
  go_upto_region 1 with (fail)
  obtain ⟨hg, hB⟩ := boxed1 w (.cells #[.int .u32 a, .int .u16 p] 105)
  generalize w.alloc (.cells #[.int .u32 a, .int .u16 p] 105) = w1 at hg hB ⊢
  have HT := Aside0.mk (H.out.below hB)
  have HB := Aside0.mk hB
  obtain ⟨g, hge⟩ : ∃ g, w.heap.size = g := ⟨_, rfl⟩
  rw [hge] at hg ⊢
  have HG := Aside0.mk hg
  have HGE := Aside0.mk hge
  clear hg hB hge
  have z0 := (blk_cell HG.out 0).trans rfl
  have z1 := (blk_cell HG.out 1).trans rfl
  go_wp2
  go_ret
  exact ⟨rfl, HB.out⟩
set_option maxRecDepth 100000 in
set_option maxHeartbeats 4000000 in
theorem bind_same {b0 b mb ma mj : Nat} {w : World} {s : TS} (h : Tb b0 w b mb ma mj s) (a p o : Int) (ho : okE (a, p)) (hp : p ≠ 0) (hx : takenF s a p = true) : Calls Try.prog 55 #[.pointer (some ⟨b, 0, none⟩), .agg #[.int .u32 a, .int .u16 p], .int .i64 o] w fun e w' => e = .returned (.int .i64 140) ∧ Below w.heap.size w w' := by
  have p1 : (p == 0) = false := beq_eq_false_iff_ne.2 hp
  have p2 : decide (p = 0) = false := decide_eq_false hp
  have HX := Aside0.mk hx
  clear hp hx
  have H := Aside0.mk h
  have HO := Aside0.mk ho
  clear h ho
  go_enter Try.func55, Try.ntmps55
  go_upto_region 1 with (fail)
  obtain ⟨hg, hB⟩ := boxed1 w (.cells #[.int .u32 a, .int .u16 p] 105)
  generalize w.alloc (.cells #[.int .u32 a, .int .u16 p] 105) = w1 at hg hB ⊢
  have HT := Aside0.mk (H.out.below hB)
  have HB := Aside0.mk hB
  obtain ⟨g, hge⟩ : ∃ g, w.heap.size = g := ⟨_, rfl⟩
  rw [hge] at hg ⊢
  have HG := Aside0.mk hg
  have HGE := Aside0.mk hge
  clear hg hB hge
  have z0 := (blk_cell HG.out 0).trans rfl
  have z1 := (blk_cell HG.out 1).trans rfl
  go_wp2_with (go_at_call 89; refine (taken_any HT.out a p HO.out).mono ?_; rintro e w2 ⟨rfl, hB⟩; rw [HX.out]; replace HT := Aside0.mk (HT.out.below hB); replace HG := Aside0.mk (blk_below HG.out hB); replace HB := Aside0.mk (below_step HB.out hB); clear hB z0 z1; have z0 := (blk_cell HG.out 0).trans rfl; have z1 := (blk_cell HG.out 1).trans rfl; obtain ⟨t0, t1, t2, t3, t4, t5, -⟩ := HT.out.cells; have ln := HT.out.lenB 3)
  go_ret
  exact ⟨rfl, HB.out⟩
set_option maxRecDepth 100000 in
set_option maxHeartbeats 4000000 in
theorem bind_full {b0 b mb ma mj : Nat} {w : World} {s : TS} (h : Tb b0 w b mb ma mj s) (a p o : Int) (ho : okE (a, p)) (hp : p ≠ 0) (hx : takenF s a p = false) (hn : 1024 ≤ s.nb) : Calls Try.prog 55 #[.pointer (some ⟨b, 0, none⟩), .agg #[.int .u32 a, .int .u16 p], .int .i64 o] w fun e w' => e = .returned (.int .i64 5) ∧ Below w.heap.size w w' := by
  have p1 : (p == 0) = false := beq_eq_false_iff_ne.2 hp
  have p2 : decide (p = 0) = false := decide_eq_false hp
  have n1 : decide (1024 ≤ (s.nb : Int)) = true := decide_eq_true (by omega)
  have HX := Aside0.mk hx
  clear hp hx hn
  have H := Aside0.mk h
  have HO := Aside0.mk ho
  clear h ho
  go_enter Try.func55, Try.ntmps55
  go_upto_region 1 with (fail)
  obtain ⟨hg, hB⟩ := boxed1 w (.cells #[.int .u32 a, .int .u16 p] 105)
  generalize w.alloc (.cells #[.int .u32 a, .int .u16 p] 105) = w1 at hg hB ⊢
  have HT := Aside0.mk (H.out.below hB)
  have HB := Aside0.mk hB
  obtain ⟨g, hge⟩ : ∃ g, w.heap.size = g := ⟨_, rfl⟩
  rw [hge] at hg ⊢
  have HG := Aside0.mk hg
  have HGE := Aside0.mk hge
  clear hg hB hge
  have z0 := (blk_cell HG.out 0).trans rfl
  have z1 := (blk_cell HG.out 1).trans rfl
  go_wp2_with (go_at_call 89; refine (taken_any HT.out a p HO.out).mono ?_; rintro e w2 ⟨rfl, hB⟩; rw [HX.out]; replace HT := Aside0.mk (HT.out.below hB); replace HG := Aside0.mk (blk_below HG.out hB); replace HB := Aside0.mk (below_step HB.out hB); clear hB z0 z1; have z0 := (blk_cell HG.out 0).trans rfl; have z1 := (blk_cell HG.out 1).trans rfl; obtain ⟨t0, t1, t2, t3, t4, t5, -⟩ := HT.out.cells; have ln := HT.out.lenB 3)
  go_ret
  exact ⟨rfl, HB.out⟩
set_option maxRecDepth 100000 in
set_option maxHeartbeats 4000000 in
theorem bind_in {b0 b mb ma mj : Nat} {w : World} {s : TS} (h : Tb b0 w b mb ma mj s) (a p o : Int) (ho : okE (a, p)) (hp : p ≠ 0) (hx : takenF s a p = false) (hn : s.nb < 1024) (hc : 0 ≤ (s.fa p).getD 0 ∧ (s.fa p).getD 0 ≤ 1000000) : Calls Try.prog 55 #[.pointer (some ⟨b, 0, none⟩), .agg #[.int .u32 a, .int .u16 p], .int .i64 o] w fun e w' => e = .returned (.int .i64 0) ∧ Tb b0 w' b mb ma mj { s with fb := upd s.fb (a, p) (some o), nb := one (s.fb (a, p)) s.nb, fa := upd s.fa p (some ((s.fa p).getD 0 + 1)) } ∧ Tv w w' b mb ma mj := by
  have p1 : (p == 0) = false := beq_eq_false_iff_ne.2 hp
  have p2 : decide (p = 0) = false := decide_eq_false hp
  have n1 : decide (1024 ≤ (s.nb : Int)) = false := decide_eq_false (by omega)
  obtain ⟨v, hv⟩ : ∃ v_, (s.fa p).getD 0 = v_ := ⟨_, rfl⟩
  rw [hv] at hc ⊢
  have e1 : IntKind.i64.wrap (v + 1) = v + 1 := wid _ (by omega) (by omega)
  have HVV := Aside0.mk hv
  have HX := Aside0.mk hx
  clear hp hx hn hv hc
  have H := Aside0.mk h
  have HO := Aside0.mk ho
  clear h ho
  go_enter Try.func55, Try.ntmps55
  go_upto_region 1 with (fail)
  obtain ⟨hg, hB⟩ := boxed1 w (.cells #[.int .u32 a, .int .u16 p] 105)
  generalize w.alloc (.cells #[.int .u32 a, .int .u16 p] 105) = w1 at hg hB ⊢
  have HT := Aside0.mk (H.out.below hB)
  have HB := Aside0.mk hB
  obtain ⟨g, hge⟩ : ∃ g, w.heap.size = g := ⟨_, rfl⟩
  rw [hge] at hg ⊢
  have HG := Aside0.mk hg
  have HGE := Aside0.mk hge
  clear hg hB hge
  have z0 := (blk_cell HG.out 0).trans rfl
  have z1 := (blk_cell HG.out 1).trans rfl
  go_upto_region 9 with (go_at_call 89; refine (taken_any HT.out a p HO.out).mono ?_; rintro e w2 ⟨rfl, hB⟩; rw [HX.out]; replace HT := Aside0.mk (HT.out.below hB); replace HG := Aside0.mk (blk_below HG.out hB); replace HB := Aside0.mk (below_step HB.out hB); clear hB z0 z1; have z0 := (blk_cell HG.out 0).trans rfl; have z1 := (blk_cell HG.out 1).trans rfl; obtain ⟨t0, t1, t2, t3, t4, t5, -⟩ := HT.out.cells; have ln := HT.out.lenB 3)
  clear z0 z1 t0 t1 t2 t3 t4 t5 ln
  have HV_ := Aside0.mk (Tv.of_below (b := b) (mb := mb) (ma := ma) (mj := mj) HB.out)
  refine start_ (n := 7) (S := fun w' => w'.heap[g]? = some (.cells #[.int .u32 a, .int .u16 p] 105 (0, 0)) ∧ Tb b0 w' b mb ma mj s) (ds := [6]) (bb 7 0) (by kernel_rfl) rfl rfl (⟨HG.out, HT.out.below (below_drew (Below.refl _ _))⟩) (fun hHeld => ?_)
  replace HV_ := Aside0.mk (HV_.out.trans (Tv.of_below (below_drew (Below.refl _ _))))
  replace HT := Aside0.mk (HT.out.below (below_drew (Below.refl _ _)))
  replace HG := Aside0.mk (show w2.drew.heap[g]? = _ from HG.out)
  generalize w2.drew = w3 at HT HG HV_ hHeld ⊢
  refine pure_ (i := 0) (N := some 25) (v := ?_) (a' := ?_) (bb 7 1) rfl rfl (by kernel_rfl) (fun _ _ _ h => h) (Or.inl ⟨by rfl, ?_⟩) ?_ ?_
  rotate_left
  · intro w'
    go_simp
    with_reducible rfl
  rotate_left
  · simp only [Act.put, List.setIfInBounds_toArray, List.set_cons_zero, List.set_cons_succ, i64_w, i32_w]
    rfl
  refine pure_ (i := 1) (N := some 26) (v := ?_) (a' := ?_) (bb 7 3) rfl rfl (by kernel_rfl) (fun _ _ _ h => h) (Or.inl ⟨by rfl, ?_⟩) ?_ ?_
  rotate_left
  · intro w'
    go_simp
    with_reducible rfl
  rotate_left
  · simp only [Act.put, List.setIfInBounds_toArray, List.set_cons_zero, List.set_cons_succ, i64_w, i32_w]
    rfl
  refine pure_ (i := 2) (N := some 27) (v := ?_) (a' := ?_) (bb 7 7) rfl rfl (by kernel_rfl) (fun _ _ _ h => h) (Or.inl ⟨by rfl, ?_⟩) ?_ ?_
  rotate_left
  · intro w'
    go_simp
    with_reducible rfl
  rotate_left
  · simp only [Act.put, List.setIfInBounds_toArray, List.set_cons_zero, List.set_cons_succ, i64_w, i32_w]
    rfl
  refine take_ (i := 3) (N := some 28) (v := ?_) (a' := ?_) (bb 7 15) rfl rfl (by kernel_rfl) (fun _ _ _ h => h) (Or.inl ⟨by rfl, ?_⟩) hHeld ?_ ?_
  rotate_left
  · intro w' hSw
    obtain ⟨hg_, hT_⟩ := hSw
    have z0 := (blk_cell hg_ 0).trans rfl
    have z1 := (blk_cell hg_ 1).trans rfl
    obtain ⟨t0, t1, t2, t3, t4, t5, -⟩ := hT_.cells
    go_simp
    with_reducible rfl
  rotate_left
  · simp only [Act.put, List.setIfInBounds_toArray, List.set_cons_zero, List.set_cons_succ, i64_w, i32_w]
    rfl
  refine take_ (i := 4) (N := some 29) (v := ?_) (a' := ?_) (bb 7 31) rfl rfl (by kernel_rfl) (fun _ _ _ h => h) (Or.inl ⟨by rfl, ?_⟩) hHeld ?_ ?_
  rotate_left
  · intro w' hSw
    obtain ⟨hg_, hT_⟩ := hSw
    have z0 := (blk_cell hg_ 0).trans rfl
    have z1 := (blk_cell hg_ 1).trans rfl
    obtain ⟨t0, t1, t2, t3, t4, t5, -⟩ := hT_.cells
    go_simp
    with_reducible rfl
  rotate_left
  · simp only [Act.put, List.setIfInBounds_toArray, List.set_cons_zero, List.set_cons_succ, i64_w, i32_w]
    rfl
  refine pure_ (i := 5) (N := some 30) (v := ?_) (a' := ?_) (bb 7 63) rfl rfl (by kernel_rfl) (fun _ _ _ h => h) (Or.inl ⟨by rfl, ?_⟩) ?_ ?_
  rotate_left
  · intro w'
    go_simp
    with_reducible rfl
  rotate_left
  · simp only [Act.put, List.setIfInBounds_toArray, List.set_cons_zero, List.set_cons_succ, i64_w, i32_w]
    rfl
  obtain ⟨w4, hup, hT5, hV5⟩ := HT.out.setB HO.out o
  refine last_ (i := 6) (N := none) (bb 7 127) rfl rfl (by kernel_rfl) (by decide) (fun K hK => ?_)
  refine skip_ (w1 := w4) (by rfl) rfl (by first | (go_simp; done) | (go_simp; rfl)) ?_
  refine hK.out _ _ ?_
  clear hK K
  refine done_ (by kernel_rfl) ?_
  clear hHeld
  replace HG := Aside0.mk (hV5.box HT.out HG.out (by decide))
  replace HV_ := Aside0.mk (HV_.out.trans hV5)
  replace HT := Aside0.mk hT5
  clear hup hT5 hV5
  go_upto_region 10 with (fail)
  refine start_ (n := 9) (S := fun w' => w'.heap[g]? = some (.cells #[.int .u32 a, .int .u16 p] 105 (0, 0)) ∧ Tb b0 w' b mb ma mj { s with fb := upd s.fb (a, p) (some o), nb := one (s.fb (a, p)) s.nb }) (ds := [8]) (bb 9 0) (by kernel_rfl) rfl rfl (⟨HG.out, HT.out.below (below_drew (Below.refl _ _))⟩) (fun hHeld => ?_)
  replace HV_ := Aside0.mk (HV_.out.trans (Tv.of_below (below_drew (Below.refl _ _))))
  replace HT := Aside0.mk (HT.out.below (below_drew (Below.refl _ _)))
  replace HG := Aside0.mk (show w4.drew.heap[g]? = _ from HG.out)
  generalize w4.drew = w5 at HT HG HV_ hHeld ⊢
  refine pure_ (i := 0) (N := some 31) (v := ?_) (a' := ?_) (bb 9 1) rfl rfl (by kernel_rfl) (fun _ _ _ h => h) (Or.inl ⟨by rfl, ?_⟩) ?_ ?_
  rotate_left
  · intro w'
    go_simp
    with_reducible rfl
  rotate_left
  · simp only [Act.put, List.setIfInBounds_toArray, List.set_cons_zero, List.set_cons_succ, i64_w, i32_w]
    rfl
  refine pure_ (i := 1) (N := some 32) (v := ?_) (a' := ?_) (bb 9 3) rfl rfl (by kernel_rfl) (fun _ _ _ h => h) (Or.inl ⟨by rfl, ?_⟩) ?_ ?_
  rotate_left
  · intro w'
    go_simp
    with_reducible rfl
  rotate_left
  · simp only [Act.put, List.setIfInBounds_toArray, List.set_cons_zero, List.set_cons_succ, i64_w, i32_w]
    rfl
  refine pure_ (i := 2) (N := some 33) (v := ?_) (a' := ?_) (bb 9 7) rfl rfl (by kernel_rfl) (fun _ _ _ h => h) (Or.inl ⟨by rfl, ?_⟩) ?_ ?_
  rotate_left
  · intro w'
    go_simp
    with_reducible rfl
  rotate_left
  · simp only [Act.put, List.setIfInBounds_toArray, List.set_cons_zero, List.set_cons_succ, i64_w, i32_w]
    rfl
  refine take_ (i := 3) (N := some 34) (v := ?_) (a' := ?_) (bb 9 15) rfl rfl (by kernel_rfl) (fun _ _ _ h => h) (Or.inl ⟨by rfl, ?_⟩) hHeld ?_ ?_
  rotate_left
  · intro w' hSw
    obtain ⟨hg_, hT_⟩ := hSw
    have z0 := (blk_cell hg_ 0).trans rfl
    have z1 := (blk_cell hg_ 1).trans rfl
    obtain ⟨t0, t1, t2, t3, t4, t5, -⟩ := hT_.cells
    have lk := hT_.lookA HO.out.2
    rw [show (({ s with fb := upd s.fb (a, p) (some o), nb := one (s.fb (a, p)) s.nb } : TS).fa p).getD 0 = v from HVV.out] at lk
    go_simp
    with_reducible rfl
  rotate_left
  · simp only [Act.put, List.setIfInBounds_toArray, List.set_cons_zero, List.set_cons_succ, i64_w, i32_w]
    rfl
  refine pure_ (i := 4) (N := some 35) (v := ?_) (a' := ?_) (bb 9 31) rfl rfl (by kernel_rfl) (fun _ _ _ h => h) (Or.inl ⟨by rfl, ?_⟩) ?_ ?_
  rotate_left
  · intro w'
    go_simp
    with_reducible rfl
  rotate_left
  · simp only [Act.put, List.setIfInBounds_toArray, List.set_cons_zero, List.set_cons_succ, i64_w, i32_w]
    rfl
  refine take_ (i := 5) (N := some 36) (v := ?_) (a' := ?_) (bb 9 63) rfl rfl (by kernel_rfl) (fun _ _ _ h => h) (Or.inl ⟨by rfl, ?_⟩) hHeld ?_ ?_
  rotate_left
  · intro w' hSw
    obtain ⟨hg_, hT_⟩ := hSw
    have z0 := (blk_cell hg_ 0).trans rfl
    have z1 := (blk_cell hg_ 1).trans rfl
    obtain ⟨t0, t1, t2, t3, t4, t5, -⟩ := hT_.cells
    have lk := hT_.lookA HO.out.2
    rw [show (({ s with fb := upd s.fb (a, p) (some o), nb := one (s.fb (a, p)) s.nb } : TS).fa p).getD 0 = v from HVV.out] at lk
    go_simp
    with_reducible rfl
  rotate_left
  · simp only [Act.put, List.setIfInBounds_toArray, List.set_cons_zero, List.set_cons_succ, i64_w, i32_w]
    rfl
  refine take_ (i := 6) (N := some 37) (v := ?_) (a' := ?_) (bb 9 127) rfl rfl (by kernel_rfl) (fun _ _ _ h => h) (Or.inl ⟨by rfl, ?_⟩) hHeld ?_ ?_
  rotate_left
  · intro w' hSw
    obtain ⟨hg_, hT_⟩ := hSw
    have z0 := (blk_cell hg_ 0).trans rfl
    have z1 := (blk_cell hg_ 1).trans rfl
    obtain ⟨t0, t1, t2, t3, t4, t5, -⟩ := hT_.cells
    have lk := hT_.lookA HO.out.2
    rw [show (({ s with fb := upd s.fb (a, p) (some o), nb := one (s.fb (a, p)) s.nb } : TS).fa p).getD 0 = v from HVV.out] at lk
    go_simp
    with_reducible rfl
  rotate_left
  · simp only [Act.put, List.setIfInBounds_toArray, List.set_cons_zero, List.set_cons_succ, i64_w, i32_w]
    rfl
  refine pure_ (i := 7) (N := some 38) (v := ?_) (a' := ?_) (bb 9 255) rfl rfl (by kernel_rfl) (fun _ _ _ h => h) (Or.inl ⟨by rfl, ?_⟩) ?_ ?_
  rotate_left
  · intro w'
    go_simp
    with_reducible rfl
  rotate_left
  · simp only [Act.put, List.setIfInBounds_toArray, List.set_cons_zero, List.set_cons_succ, i64_w, i32_w]
    rfl
  obtain ⟨w6, hup, hT5, hV5⟩ := HT.out.setA HO.out.2 (v + 1)
  refine last_ (i := 8) (N := none) (bb 9 511) rfl rfl (by kernel_rfl) (by decide) (fun K hK => ?_)
  refine skip_ (w1 := w6) (by rfl) rfl (by first | (go_simp; done) | (go_simp; rfl)) ?_
  refine hK.out _ _ ?_
  clear hK K
  refine done_ (by kernel_rfl) ?_
  clear hHeld
  replace HG := Aside0.mk (hV5.box HT.out HG.out (by decide))
  replace HV_ := Aside0.mk (HV_.out.trans hV5)
  replace HT := Aside0.mk hT5
  clear hup hT5 hV5
  go_wp2
  go_ret
  exact ⟨rfl, HT.out, HV_.out⟩
set_option maxRecDepth 100000 in
set_option maxHeartbeats 4000000 in
theorem unbind_none {b0 b mb ma mj : Nat} {w : World} {s : TS} (h : Tb b0 w b mb ma mj s) (a p o : Int) (ho : okE (a, p)) (hq : (s.fb (a, p)).isSome = false) : Calls Try.prog 58 #[.pointer (some ⟨b, 0, none⟩), .agg #[.int .u32 a, .int .u16 p], .int .i64 o] w fun e w' => e = .returned (.int .i64 6) ∧ Below w.heap.size w w' := by
  obtain ⟨v1, hv1⟩ : ∃ v_, (s.fb (a, p)).getD 0 = v_ := ⟨_, rfl⟩
  have HQ := Aside0.mk (And.intro hv1 hq)
  clear hq hv1
  have H := Aside0.mk h
  have HO := Aside0.mk ho
  clear h ho
  go_enter Try.func58, Try.ntmps58
  go_upto_region 1 with (fail)
  obtain ⟨hg, hB⟩ := boxed1 w (.cells #[.int .u32 a, .int .u16 p] 105)
  generalize w.alloc (.cells #[.int .u32 a, .int .u16 p] 105) = w1 at hg hB ⊢
  have HT := Aside0.mk (H.out.below hB)
  have HB := Aside0.mk hB
  obtain ⟨g, hge⟩ : ∃ g, w.heap.size = g := ⟨_, rfl⟩
  rw [hge] at hg ⊢
  have HG := Aside0.mk hg
  have HGE := Aside0.mk hge
  clear hg hB hge
  go_upto_region 3 with (fail)
  refine start_ (n := 11) (S := fun w' => w'.heap[g]? = some (.cells #[.int .u32 a, .int .u16 p] 105 (0, 0)) ∧ Tb b0 w' b mb ma mj s) (ds := []) (bb 11 0) (by kernel_rfl) rfl rfl (⟨HG.out, HT.out.below (below_drew (Below.refl _ _))⟩) (fun hHeld => ?_)
  replace HT := Aside0.mk (HT.out.below (below_drew (Below.refl _ _)))
  replace HG := Aside0.mk (show w1.drew.heap[g]? = _ from HG.out)
  replace HB := Aside0.mk (below_drew HB.out)
  generalize w1.drew = w2 at HT HG HB hHeld ⊢
  refine pure_ (i := 0) (N := some 12) (v := ?_) (a' := ?_) (bb 11 1) rfl rfl (by kernel_rfl) (fun _ _ _ h => h) (Or.inl ⟨by rfl, ?_⟩) ?_ ?_
  rotate_left
  · intro w'
    go_simp
    with_reducible rfl
  rotate_left
  · simp only [Act.put, List.setIfInBounds_toArray, List.set_cons_zero, List.set_cons_succ, i64_w, i32_w]
    rfl
  refine pure_ (i := 1) (N := some 13) (v := ?_) (a' := ?_) (bb 11 3) rfl rfl (by kernel_rfl) (fun _ _ _ h => h) (Or.inl ⟨by rfl, ?_⟩) ?_ ?_
  rotate_left
  · intro w'
    go_simp
    with_reducible rfl
  rotate_left
  · simp only [Act.put, List.setIfInBounds_toArray, List.set_cons_zero, List.set_cons_succ, i64_w, i32_w]
    rfl
  refine pure_ (i := 2) (N := some 14) (v := ?_) (a' := ?_) (bb 11 7) rfl rfl (by kernel_rfl) (fun _ _ _ h => h) (Or.inl ⟨by rfl, ?_⟩) ?_ ?_
  rotate_left
  · intro w'
    go_simp
    with_reducible rfl
  rotate_left
  · simp only [Act.put, List.setIfInBounds_toArray, List.set_cons_zero, List.set_cons_succ, i64_w, i32_w]
    rfl
  refine take_ (i := 3) (N := some 15) (v := ?_) (a' := ?_) (bb 11 15) rfl rfl (by kernel_rfl) (fun _ _ _ h => h) (Or.inl ⟨by rfl, ?_⟩) hHeld ?_ ?_
  rotate_left
  · intro w' hSw
    obtain ⟨hg_, hT_⟩ := hSw
    have z0 := (blk_cell hg_ 0).trans rfl
    have z1 := (blk_cell hg_ 1).trans rfl
    obtain ⟨t0, t1, t2, t3, t4, t5, -⟩ := hT_.cells
    have lk := hT_.lookB HO.out
    rw [HQ.out.1, HQ.out.2] at lk
    go_simp
    with_reducible rfl
  rotate_left
  · simp only [Act.put, List.setIfInBounds_toArray, List.set_cons_zero, List.set_cons_succ, i64_w, i32_w]
    rfl
  refine take_ (i := 4) (N := some 16) (v := ?_) (a' := ?_) (bb 11 31) rfl rfl (by kernel_rfl) (fun _ _ _ h => h) (Or.inl ⟨by rfl, ?_⟩) hHeld ?_ ?_
  rotate_left
  · intro w' hSw
    obtain ⟨hg_, hT_⟩ := hSw
    have z0 := (blk_cell hg_ 0).trans rfl
    have z1 := (blk_cell hg_ 1).trans rfl
    obtain ⟨t0, t1, t2, t3, t4, t5, -⟩ := hT_.cells
    have lk := hT_.lookB HO.out
    rw [HQ.out.1, HQ.out.2] at lk
    go_simp
    with_reducible rfl
  rotate_left
  · simp only [Act.put, List.setIfInBounds_toArray, List.set_cons_zero, List.set_cons_succ, i64_w, i32_w]
    rfl
  refine take_ (i := 5) (N := some 17) (v := ?_) (a' := ?_) (bb 11 63) rfl rfl (by kernel_rfl) (fun _ _ _ h => h) (Or.inl ⟨by rfl, ?_⟩) hHeld ?_ ?_
  rotate_left
  · intro w' hSw
    obtain ⟨hg_, hT_⟩ := hSw
    have z0 := (blk_cell hg_ 0).trans rfl
    have z1 := (blk_cell hg_ 1).trans rfl
    obtain ⟨t0, t1, t2, t3, t4, t5, -⟩ := hT_.cells
    have lk := hT_.lookB HO.out
    rw [HQ.out.1, HQ.out.2] at lk
    go_simp
    with_reducible rfl
  rotate_left
  · simp only [Act.put, List.setIfInBounds_toArray, List.set_cons_zero, List.set_cons_succ, i64_w, i32_w]
    rfl
  refine pure_ (i := 6) (N := some 11) (v := ?_) (a' := ?_) (bb 11 127) rfl rfl (by kernel_rfl) (fun _ _ _ h => h) (Or.inl ⟨by rfl, ?_⟩) ?_ ?_
  rotate_left
  · intro w'
    go_simp
    with_reducible rfl
  rotate_left
  · simp only [Act.put, List.setIfInBounds_toArray, List.set_cons_zero, List.set_cons_succ, i64_w, i32_w]
    rfl
  refine pure_ (i := 7) (N := some 18) (v := ?_) (a' := ?_) (bb 11 255) rfl rfl (by kernel_rfl) (fun _ _ _ h => h) (Or.inl ⟨by rfl, ?_⟩) ?_ ?_
  rotate_left
  · intro w'
    go_simp
    with_reducible rfl
  rotate_left
  · simp only [Act.put, List.setIfInBounds_toArray, List.set_cons_zero, List.set_cons_succ, i64_w, i32_w]
    rfl
  refine pure_ (i := 8) (N := some 19) (v := ?_) (a' := ?_) (bb 11 511) rfl rfl (by kernel_rfl) (fun _ _ _ h => h) (Or.inl ⟨by rfl, ?_⟩) ?_ ?_
  rotate_left
  · intro w'
    go_simp
    with_reducible rfl
  rotate_left
  · simp only [Act.put, List.setIfInBounds_toArray, List.set_cons_zero, List.set_cons_succ, i64_w, i32_w]
    rfl
  refine pure_ (i := 9) (N := some 7) (v := ?_) (a' := ?_) (bb 11 1023) rfl rfl (by kernel_rfl) (fun _ _ _ h => h) (Or.inl ⟨by rfl, ?_⟩) ?_ ?_
  rotate_left
  · intro w'
    go_simp
    with_reducible rfl
  rotate_left
  · simp only [Act.put, List.setIfInBounds_toArray, List.set_cons_zero, List.set_cons_succ, i64_w, i32_w]
    rfl
  refine pure_ (i := 10) (N := some 8) (v := ?_) (a' := ?_) (bb 11 2047) rfl rfl (by kernel_rfl) (fun _ _ _ h => h) (Or.inl ⟨by rfl, ?_⟩) ?_ ?_
  rotate_left
  · intro w'
    go_simp
    with_reducible rfl
  rotate_left
  · simp only [Act.put, List.setIfInBounds_toArray, List.set_cons_zero, List.set_cons_succ, i64_w, i32_w]
    rfl
  refine done_ (by kernel_rfl) ?_
  clear hHeld
  go_wp2
  go_ret
  exact ⟨rfl, HB.out⟩
set_option maxRecDepth 100000 in
set_option maxHeartbeats 4000000 in
theorem unbind_other {b0 b mb ma mj : Nat} {w : World} {s : TS} (h : Tb b0 w b mb ma mj s) (a p o : Int) (ho : okE (a, p)) (hq : (s.fb (a, p)).isSome = true) (hne : (s.fb (a, p)).getD 0 ≠ o) : Calls Try.prog 58 #[.pointer (some ⟨b, 0, none⟩), .agg #[.int .u32 a, .int .u16 p], .int .i64 o] w fun e w' => e = .returned (.int .i64 6) ∧ Below w.heap.size w w' := by
  obtain ⟨v1, hv1⟩ : ∃ v_, (s.fb (a, p)).getD 0 = v_ := ⟨_, rfl⟩
  rw [hv1] at hne
  have m1 : (v1 != o) = true := bne_iff_ne.2 hne
  have m2 : (v1 == o) = false := beq_eq_false_iff_ne.2 hne
  have m3 : decide (v1 = o) = false := decide_eq_false hne
  have m4 : (v1 = o) = False := eq_false hne
  have HQ := Aside0.mk (And.intro hv1 hq)
  clear hq hv1 hne
  have H := Aside0.mk h
  have HO := Aside0.mk ho
  clear h ho
  go_enter Try.func58, Try.ntmps58
  go_upto_region 1 with (fail)
  obtain ⟨hg, hB⟩ := boxed1 w (.cells #[.int .u32 a, .int .u16 p] 105)
  generalize w.alloc (.cells #[.int .u32 a, .int .u16 p] 105) = w1 at hg hB ⊢
  have HT := Aside0.mk (H.out.below hB)
  have HB := Aside0.mk hB
  obtain ⟨g, hge⟩ : ∃ g, w.heap.size = g := ⟨_, rfl⟩
  rw [hge] at hg ⊢
  have HG := Aside0.mk hg
  have HGE := Aside0.mk hge
  clear hg hB hge
  go_upto_region 3 with (fail)
  refine start_ (n := 11) (S := fun w' => w'.heap[g]? = some (.cells #[.int .u32 a, .int .u16 p] 105 (0, 0)) ∧ Tb b0 w' b mb ma mj s) (ds := []) (bb 11 0) (by kernel_rfl) rfl rfl (⟨HG.out, HT.out.below (below_drew (Below.refl _ _))⟩) (fun hHeld => ?_)
  replace HT := Aside0.mk (HT.out.below (below_drew (Below.refl _ _)))
  replace HG := Aside0.mk (show w1.drew.heap[g]? = _ from HG.out)
  replace HB := Aside0.mk (below_drew HB.out)
  generalize w1.drew = w2 at HT HG HB hHeld ⊢
  refine pure_ (i := 0) (N := some 12) (v := ?_) (a' := ?_) (bb 11 1) rfl rfl (by kernel_rfl) (fun _ _ _ h => h) (Or.inl ⟨by rfl, ?_⟩) ?_ ?_
  rotate_left
  · intro w'
    go_simp
    with_reducible rfl
  rotate_left
  · simp only [Act.put, List.setIfInBounds_toArray, List.set_cons_zero, List.set_cons_succ, i64_w, i32_w]
    rfl
  refine pure_ (i := 1) (N := some 13) (v := ?_) (a' := ?_) (bb 11 3) rfl rfl (by kernel_rfl) (fun _ _ _ h => h) (Or.inl ⟨by rfl, ?_⟩) ?_ ?_
  rotate_left
  · intro w'
    go_simp
    with_reducible rfl
  rotate_left
  · simp only [Act.put, List.setIfInBounds_toArray, List.set_cons_zero, List.set_cons_succ, i64_w, i32_w]
    rfl
  refine pure_ (i := 2) (N := some 14) (v := ?_) (a' := ?_) (bb 11 7) rfl rfl (by kernel_rfl) (fun _ _ _ h => h) (Or.inl ⟨by rfl, ?_⟩) ?_ ?_
  rotate_left
  · intro w'
    go_simp
    with_reducible rfl
  rotate_left
  · simp only [Act.put, List.setIfInBounds_toArray, List.set_cons_zero, List.set_cons_succ, i64_w, i32_w]
    rfl
  refine take_ (i := 3) (N := some 15) (v := ?_) (a' := ?_) (bb 11 15) rfl rfl (by kernel_rfl) (fun _ _ _ h => h) (Or.inl ⟨by rfl, ?_⟩) hHeld ?_ ?_
  rotate_left
  · intro w' hSw
    obtain ⟨hg_, hT_⟩ := hSw
    have z0 := (blk_cell hg_ 0).trans rfl
    have z1 := (blk_cell hg_ 1).trans rfl
    obtain ⟨t0, t1, t2, t3, t4, t5, -⟩ := hT_.cells
    have lk := hT_.lookB HO.out
    rw [HQ.out.1, HQ.out.2] at lk
    go_simp
    with_reducible rfl
  rotate_left
  · simp only [Act.put, List.setIfInBounds_toArray, List.set_cons_zero, List.set_cons_succ, i64_w, i32_w]
    rfl
  refine take_ (i := 4) (N := some 16) (v := ?_) (a' := ?_) (bb 11 31) rfl rfl (by kernel_rfl) (fun _ _ _ h => h) (Or.inl ⟨by rfl, ?_⟩) hHeld ?_ ?_
  rotate_left
  · intro w' hSw
    obtain ⟨hg_, hT_⟩ := hSw
    have z0 := (blk_cell hg_ 0).trans rfl
    have z1 := (blk_cell hg_ 1).trans rfl
    obtain ⟨t0, t1, t2, t3, t4, t5, -⟩ := hT_.cells
    have lk := hT_.lookB HO.out
    rw [HQ.out.1, HQ.out.2] at lk
    go_simp
    with_reducible rfl
  rotate_left
  · simp only [Act.put, List.setIfInBounds_toArray, List.set_cons_zero, List.set_cons_succ, i64_w, i32_w]
    rfl
  refine take_ (i := 5) (N := some 17) (v := ?_) (a' := ?_) (bb 11 63) rfl rfl (by kernel_rfl) (fun _ _ _ h => h) (Or.inl ⟨by rfl, ?_⟩) hHeld ?_ ?_
  rotate_left
  · intro w' hSw
    obtain ⟨hg_, hT_⟩ := hSw
    have z0 := (blk_cell hg_ 0).trans rfl
    have z1 := (blk_cell hg_ 1).trans rfl
    obtain ⟨t0, t1, t2, t3, t4, t5, -⟩ := hT_.cells
    have lk := hT_.lookB HO.out
    rw [HQ.out.1, HQ.out.2] at lk
    go_simp
    with_reducible rfl
  rotate_left
  · simp only [Act.put, List.setIfInBounds_toArray, List.set_cons_zero, List.set_cons_succ, i64_w, i32_w]
    rfl
  refine pure_ (i := 6) (N := some 11) (v := ?_) (a' := ?_) (bb 11 127) rfl rfl (by kernel_rfl) (fun _ _ _ h => h) (Or.inl ⟨by rfl, ?_⟩) ?_ ?_
  rotate_left
  · intro w'
    go_simp
    with_reducible rfl
  rotate_left
  · simp only [Act.put, List.setIfInBounds_toArray, List.set_cons_zero, List.set_cons_succ, i64_w, i32_w]
    rfl
  refine pure_ (i := 7) (N := some 18) (v := ?_) (a' := ?_) (bb 11 255) rfl rfl (by kernel_rfl) (fun _ _ _ h => h) (Or.inl ⟨by rfl, ?_⟩) ?_ ?_
  rotate_left
  · intro w'
    go_simp
    with_reducible rfl
  rotate_left
  · simp only [Act.put, List.setIfInBounds_toArray, List.set_cons_zero, List.set_cons_succ, i64_w, i32_w]
    rfl
  refine pure_ (i := 8) (N := some 19) (v := ?_) (a' := ?_) (bb 11 511) rfl rfl (by kernel_rfl) (fun _ _ _ h => h) (Or.inl ⟨by rfl, ?_⟩) ?_ ?_
  rotate_left
  · intro w'
    go_simp
    with_reducible rfl
  rotate_left
  · simp only [Act.put, List.setIfInBounds_toArray, List.set_cons_zero, List.set_cons_succ, i64_w, i32_w]
    rfl
  refine pure_ (i := 9) (N := some 7) (v := ?_) (a' := ?_) (bb 11 1023) rfl rfl (by kernel_rfl) (fun _ _ _ h => h) (Or.inl ⟨by rfl, ?_⟩) ?_ ?_
  rotate_left
  · intro w'
    go_simp
    with_reducible rfl
  rotate_left
  · simp only [Act.put, List.setIfInBounds_toArray, List.set_cons_zero, List.set_cons_succ, i64_w, i32_w]
    rfl
  refine pure_ (i := 10) (N := some 8) (v := ?_) (a' := ?_) (bb 11 2047) rfl rfl (by kernel_rfl) (fun _ _ _ h => h) (Or.inl ⟨by rfl, ?_⟩) ?_ ?_
  rotate_left
  · intro w'
    go_simp
    with_reducible rfl
  rotate_left
  · simp only [Act.put, List.setIfInBounds_toArray, List.set_cons_zero, List.set_cons_succ, i64_w, i32_w]
    rfl
  refine done_ (by kernel_rfl) ?_
  clear hHeld
  go_wp2
  go_ret
  exact ⟨rfl, HB.out⟩
set_option maxRecDepth 100000 in
set_option maxHeartbeats 4000000 in
theorem unbind_out {b0 b mb ma mj : Nat} {w : World} {s : TS} (h : Tb b0 w b mb ma mj s) (a p o : Int) (ho : okE (a, p)) (hq : (s.fb (a, p)).isSome = true) (hne : (s.fb (a, p)).getD 0 = o) (hc : 0 ≤ (s.fa p).getD 0 ∧ (s.fa p).getD 0 ≤ 1000000) : Calls Try.prog 58 #[.pointer (some ⟨b, 0, none⟩), .agg #[.int .u32 a, .int .u16 p], .int .i64 o] w fun e w' => e = .returned (.int .i64 0) ∧ Tb b0 w' b mb ma mj { s with fb := upd s.fb (a, p) none, nb := less (s.fb (a, p)) s.nb, fa := upd s.fa p (some ((s.fa p).getD 0 - 1)) } ∧ Tv w w' b mb ma mj := by
  obtain ⟨v, hv⟩ : ∃ v_, (s.fa p).getD 0 = v_ := ⟨_, rfl⟩
  rw [hv] at hc ⊢
  have e1 : IntKind.i64.wrap (v - 1) = v - 1 := wid _ (by omega) (by omega)
  have HVV := Aside0.mk hv
  have HQ := Aside0.mk (And.intro hne hq)
  have m1 : (o != o) = false := bne_self_eq_false o
  clear hq hne hv hc
  have H := Aside0.mk h
  have HO := Aside0.mk ho
  clear h ho
  go_enter Try.func58, Try.ntmps58
  go_upto_region 1 with (fail)
  obtain ⟨hg, hB⟩ := boxed1 w (.cells #[.int .u32 a, .int .u16 p] 105)
  generalize w.alloc (.cells #[.int .u32 a, .int .u16 p] 105) = w1 at hg hB ⊢
  have HT := Aside0.mk (H.out.below hB)
  have HB := Aside0.mk hB
  obtain ⟨g, hge⟩ : ∃ g, w.heap.size = g := ⟨_, rfl⟩
  rw [hge] at hg ⊢
  have HG := Aside0.mk hg
  have HGE := Aside0.mk hge
  clear hg hB hge
  go_upto_region 3 with (fail)
  refine start_ (n := 11) (S := fun w' => w'.heap[g]? = some (.cells #[.int .u32 a, .int .u16 p] 105 (0, 0)) ∧ Tb b0 w' b mb ma mj s) (ds := []) (bb 11 0) (by kernel_rfl) rfl rfl (⟨HG.out, HT.out.below (below_drew (Below.refl _ _))⟩) (fun hHeld => ?_)
  replace HT := Aside0.mk (HT.out.below (below_drew (Below.refl _ _)))
  replace HG := Aside0.mk (show w1.drew.heap[g]? = _ from HG.out)
  replace HB := Aside0.mk (below_drew HB.out)
  generalize w1.drew = w2 at HT HG HB hHeld ⊢
  refine pure_ (i := 0) (N := some 12) (v := ?_) (a' := ?_) (bb 11 1) rfl rfl (by kernel_rfl) (fun _ _ _ h => h) (Or.inl ⟨by rfl, ?_⟩) ?_ ?_
  rotate_left
  · intro w'
    go_simp
    with_reducible rfl
  rotate_left
  · simp only [Act.put, List.setIfInBounds_toArray, List.set_cons_zero, List.set_cons_succ, i64_w, i32_w]
    rfl
  refine pure_ (i := 1) (N := some 13) (v := ?_) (a' := ?_) (bb 11 3) rfl rfl (by kernel_rfl) (fun _ _ _ h => h) (Or.inl ⟨by rfl, ?_⟩) ?_ ?_
  rotate_left
  · intro w'
    go_simp
    with_reducible rfl
  rotate_left
  · simp only [Act.put, List.setIfInBounds_toArray, List.set_cons_zero, List.set_cons_succ, i64_w, i32_w]
    rfl
  refine pure_ (i := 2) (N := some 14) (v := ?_) (a' := ?_) (bb 11 7) rfl rfl (by kernel_rfl) (fun _ _ _ h => h) (Or.inl ⟨by rfl, ?_⟩) ?_ ?_
  rotate_left
  · intro w'
    go_simp
    with_reducible rfl
  rotate_left
  · simp only [Act.put, List.setIfInBounds_toArray, List.set_cons_zero, List.set_cons_succ, i64_w, i32_w]
    rfl
  refine take_ (i := 3) (N := some 15) (v := ?_) (a' := ?_) (bb 11 15) rfl rfl (by kernel_rfl) (fun _ _ _ h => h) (Or.inl ⟨by rfl, ?_⟩) hHeld ?_ ?_
  rotate_left
  · intro w' hSw
    obtain ⟨hg_, hT_⟩ := hSw
    have z0 := (blk_cell hg_ 0).trans rfl
    have z1 := (blk_cell hg_ 1).trans rfl
    obtain ⟨t0, t1, t2, t3, t4, t5, -⟩ := hT_.cells
    have lk := hT_.lookB HO.out
    rw [HQ.out.1, HQ.out.2] at lk
    go_simp
    with_reducible rfl
  rotate_left
  · simp only [Act.put, List.setIfInBounds_toArray, List.set_cons_zero, List.set_cons_succ, i64_w, i32_w]
    rfl
  refine take_ (i := 4) (N := some 16) (v := ?_) (a' := ?_) (bb 11 31) rfl rfl (by kernel_rfl) (fun _ _ _ h => h) (Or.inl ⟨by rfl, ?_⟩) hHeld ?_ ?_
  rotate_left
  · intro w' hSw
    obtain ⟨hg_, hT_⟩ := hSw
    have z0 := (blk_cell hg_ 0).trans rfl
    have z1 := (blk_cell hg_ 1).trans rfl
    obtain ⟨t0, t1, t2, t3, t4, t5, -⟩ := hT_.cells
    have lk := hT_.lookB HO.out
    rw [HQ.out.1, HQ.out.2] at lk
    go_simp
    with_reducible rfl
  rotate_left
  · simp only [Act.put, List.setIfInBounds_toArray, List.set_cons_zero, List.set_cons_succ, i64_w, i32_w]
    rfl
  refine take_ (i := 5) (N := some 17) (v := ?_) (a' := ?_) (bb 11 63) rfl rfl (by kernel_rfl) (fun _ _ _ h => h) (Or.inl ⟨by rfl, ?_⟩) hHeld ?_ ?_
  rotate_left
  · intro w' hSw
    obtain ⟨hg_, hT_⟩ := hSw
    have z0 := (blk_cell hg_ 0).trans rfl
    have z1 := (blk_cell hg_ 1).trans rfl
    obtain ⟨t0, t1, t2, t3, t4, t5, -⟩ := hT_.cells
    have lk := hT_.lookB HO.out
    rw [HQ.out.1, HQ.out.2] at lk
    go_simp
    with_reducible rfl
  rotate_left
  · simp only [Act.put, List.setIfInBounds_toArray, List.set_cons_zero, List.set_cons_succ, i64_w, i32_w]
    rfl
  refine pure_ (i := 6) (N := some 11) (v := ?_) (a' := ?_) (bb 11 127) rfl rfl (by kernel_rfl) (fun _ _ _ h => h) (Or.inl ⟨by rfl, ?_⟩) ?_ ?_
  rotate_left
  · intro w'
    go_simp
    with_reducible rfl
  rotate_left
  · simp only [Act.put, List.setIfInBounds_toArray, List.set_cons_zero, List.set_cons_succ, i64_w, i32_w]
    rfl
  refine pure_ (i := 7) (N := some 18) (v := ?_) (a' := ?_) (bb 11 255) rfl rfl (by kernel_rfl) (fun _ _ _ h => h) (Or.inl ⟨by rfl, ?_⟩) ?_ ?_
  rotate_left
  · intro w'
    go_simp
    with_reducible rfl
  rotate_left
  · simp only [Act.put, List.setIfInBounds_toArray, List.set_cons_zero, List.set_cons_succ, i64_w, i32_w]
    rfl
  refine pure_ (i := 8) (N := some 19) (v := ?_) (a' := ?_) (bb 11 511) rfl rfl (by kernel_rfl) (fun _ _ _ h => h) (Or.inl ⟨by rfl, ?_⟩) ?_ ?_
  rotate_left
  · intro w'
    go_simp
    with_reducible rfl
  rotate_left
  · simp only [Act.put, List.setIfInBounds_toArray, List.set_cons_zero, List.set_cons_succ, i64_w, i32_w]
    rfl
  refine pure_ (i := 9) (N := some 7) (v := ?_) (a' := ?_) (bb 11 1023) rfl rfl (by kernel_rfl) (fun _ _ _ h => h) (Or.inl ⟨by rfl, ?_⟩) ?_ ?_
  rotate_left
  · intro w'
    go_simp
    with_reducible rfl
  rotate_left
  · simp only [Act.put, List.setIfInBounds_toArray, List.set_cons_zero, List.set_cons_succ, i64_w, i32_w]
    rfl
  refine pure_ (i := 10) (N := some 8) (v := ?_) (a' := ?_) (bb 11 2047) rfl rfl (by kernel_rfl) (fun _ _ _ h => h) (Or.inl ⟨by rfl, ?_⟩) ?_ ?_
  rotate_left
  · intro w'
    go_simp
    with_reducible rfl
  rotate_left
  · simp only [Act.put, List.setIfInBounds_toArray, List.set_cons_zero, List.set_cons_succ, i64_w, i32_w]
    rfl
  refine done_ (by kernel_rfl) ?_
  clear hHeld
  go_upto_region 6 with (fail)
  have HV_ := Aside0.mk (Tv.of_below (b := b) (mb := mb) (ma := ma) (mj := mj) HB.out)
  refine start_ (n := 6) (S := fun w' => w'.heap[g]? = some (.cells #[.int .u32 a, .int .u16 p] 105 (0, 0)) ∧ Tb b0 w' b mb ma mj s) (ds := [5]) (bb 6 0) (by kernel_rfl) rfl rfl (⟨HG.out, HT.out.below (below_drew (Below.refl _ _))⟩) (fun hHeld => ?_)
  replace HV_ := Aside0.mk (HV_.out.trans (Tv.of_below (below_drew (Below.refl _ _))))
  replace HT := Aside0.mk (HT.out.below (below_drew (Below.refl _ _)))
  replace HG := Aside0.mk (show w2.drew.heap[g]? = _ from HG.out)
  generalize w2.drew = w3 at HT HG HV_ hHeld ⊢
  refine pure_ (i := 0) (N := some 27) (v := ?_) (a' := ?_) (bb 6 1) rfl rfl (by kernel_rfl) (fun _ _ _ h => h) (Or.inl ⟨by rfl, ?_⟩) ?_ ?_
  rotate_left
  · intro w'
    go_simp
    with_reducible rfl
  rotate_left
  · simp only [Act.put, List.setIfInBounds_toArray, List.set_cons_zero, List.set_cons_succ, i64_w, i32_w]
    rfl
  refine pure_ (i := 1) (N := some 28) (v := ?_) (a' := ?_) (bb 6 3) rfl rfl (by kernel_rfl) (fun _ _ _ h => h) (Or.inl ⟨by rfl, ?_⟩) ?_ ?_
  rotate_left
  · intro w'
    go_simp
    with_reducible rfl
  rotate_left
  · simp only [Act.put, List.setIfInBounds_toArray, List.set_cons_zero, List.set_cons_succ, i64_w, i32_w]
    rfl
  refine pure_ (i := 2) (N := some 29) (v := ?_) (a' := ?_) (bb 6 7) rfl rfl (by kernel_rfl) (fun _ _ _ h => h) (Or.inl ⟨by rfl, ?_⟩) ?_ ?_
  rotate_left
  · intro w'
    go_simp
    with_reducible rfl
  rotate_left
  · simp only [Act.put, List.setIfInBounds_toArray, List.set_cons_zero, List.set_cons_succ, i64_w, i32_w]
    rfl
  refine take_ (i := 3) (N := some 30) (v := ?_) (a' := ?_) (bb 6 15) rfl rfl (by kernel_rfl) (fun _ _ _ h => h) (Or.inl ⟨by rfl, ?_⟩) hHeld ?_ ?_
  rotate_left
  · intro w' hSw
    obtain ⟨hg_, hT_⟩ := hSw
    have z0 := (blk_cell hg_ 0).trans rfl
    have z1 := (blk_cell hg_ 1).trans rfl
    obtain ⟨t0, t1, t2, t3, t4, t5, -⟩ := hT_.cells
    go_simp
    with_reducible rfl
  rotate_left
  · simp only [Act.put, List.setIfInBounds_toArray, List.set_cons_zero, List.set_cons_succ, i64_w, i32_w]
    rfl
  refine take_ (i := 4) (N := some 31) (v := ?_) (a' := ?_) (bb 6 31) rfl rfl (by kernel_rfl) (fun _ _ _ h => h) (Or.inl ⟨by rfl, ?_⟩) hHeld ?_ ?_
  rotate_left
  · intro w' hSw
    obtain ⟨hg_, hT_⟩ := hSw
    have z0 := (blk_cell hg_ 0).trans rfl
    have z1 := (blk_cell hg_ 1).trans rfl
    obtain ⟨t0, t1, t2, t3, t4, t5, -⟩ := hT_.cells
    go_simp
    with_reducible rfl
  rotate_left
  · simp only [Act.put, List.setIfInBounds_toArray, List.set_cons_zero, List.set_cons_succ, i64_w, i32_w]
    rfl
  obtain ⟨w4, hup, hT5, hV5⟩ := HT.out.delB HO.out 0
  refine last_ (i := 5) (N := none) (bb 6 63) rfl rfl (by kernel_rfl) (by decide) (fun K hK => ?_)
  refine value_ (v := .tuple #[]) (w1 := w4) (by rfl) rfl (by first | (go_simp; done) | (go_simp; rfl)) ?_
  refine hK.out _ _ ?_
  clear hK K
  skip
  refine done_ (by kernel_rfl) ?_
  clear hHeld
  replace HG := Aside0.mk (hV5.box HT.out HG.out (by decide))
  replace HV_ := Aside0.mk (HV_.out.trans hV5)
  replace HT := Aside0.mk hT5
  clear hup hT5 hV5
  go_upto_region 7 with (fail)
  refine start_ (n := 9) (S := fun w' => w'.heap[g]? = some (.cells #[.int .u32 a, .int .u16 p] 105 (0, 0)) ∧ Tb b0 w' b mb ma mj { s with fb := upd s.fb (a, p) none, nb := less (s.fb (a, p)) s.nb }) (ds := [8]) (bb 9 0) (by kernel_rfl) rfl rfl (⟨HG.out, HT.out.below (below_drew (Below.refl _ _))⟩) (fun hHeld => ?_)
  replace HV_ := Aside0.mk (HV_.out.trans (Tv.of_below (below_drew (Below.refl _ _))))
  replace HT := Aside0.mk (HT.out.below (below_drew (Below.refl _ _)))
  replace HG := Aside0.mk (show w4.drew.heap[g]? = _ from HG.out)
  generalize w4.drew = w5 at HT HG HV_ hHeld ⊢
  refine pure_ (i := 0) (N := some 32) (v := ?_) (a' := ?_) (bb 9 1) rfl rfl (by kernel_rfl) (fun _ _ _ h => h) (Or.inl ⟨by rfl, ?_⟩) ?_ ?_
  rotate_left
  · intro w'
    go_simp
    with_reducible rfl
  rotate_left
  · simp only [Act.put, List.setIfInBounds_toArray, List.set_cons_zero, List.set_cons_succ, i64_w, i32_w]
    rfl
  refine pure_ (i := 1) (N := some 33) (v := ?_) (a' := ?_) (bb 9 3) rfl rfl (by kernel_rfl) (fun _ _ _ h => h) (Or.inl ⟨by rfl, ?_⟩) ?_ ?_
  rotate_left
  · intro w'
    go_simp
    with_reducible rfl
  rotate_left
  · simp only [Act.put, List.setIfInBounds_toArray, List.set_cons_zero, List.set_cons_succ, i64_w, i32_w]
    rfl
  refine pure_ (i := 2) (N := some 34) (v := ?_) (a' := ?_) (bb 9 7) rfl rfl (by kernel_rfl) (fun _ _ _ h => h) (Or.inl ⟨by rfl, ?_⟩) ?_ ?_
  rotate_left
  · intro w'
    go_simp
    with_reducible rfl
  rotate_left
  · simp only [Act.put, List.setIfInBounds_toArray, List.set_cons_zero, List.set_cons_succ, i64_w, i32_w]
    rfl
  refine take_ (i := 3) (N := some 35) (v := ?_) (a' := ?_) (bb 9 15) rfl rfl (by kernel_rfl) (fun _ _ _ h => h) (Or.inl ⟨by rfl, ?_⟩) hHeld ?_ ?_
  rotate_left
  · intro w' hSw
    obtain ⟨hg_, hT_⟩ := hSw
    have z0 := (blk_cell hg_ 0).trans rfl
    have z1 := (blk_cell hg_ 1).trans rfl
    obtain ⟨t0, t1, t2, t3, t4, t5, -⟩ := hT_.cells
    have lk := hT_.lookA HO.out.2
    rw [show (({ s with fb := upd s.fb (a, p) none, nb := less (s.fb (a, p)) s.nb } : TS).fa p).getD 0 = v from HVV.out] at lk
    go_simp
    with_reducible rfl
  rotate_left
  · simp only [Act.put, List.setIfInBounds_toArray, List.set_cons_zero, List.set_cons_succ, i64_w, i32_w]
    rfl
  refine pure_ (i := 4) (N := some 36) (v := ?_) (a' := ?_) (bb 9 31) rfl rfl (by kernel_rfl) (fun _ _ _ h => h) (Or.inl ⟨by rfl, ?_⟩) ?_ ?_
  rotate_left
  · intro w'
    go_simp
    with_reducible rfl
  rotate_left
  · simp only [Act.put, List.setIfInBounds_toArray, List.set_cons_zero, List.set_cons_succ, i64_w, i32_w]
    rfl
  refine take_ (i := 5) (N := some 37) (v := ?_) (a' := ?_) (bb 9 63) rfl rfl (by kernel_rfl) (fun _ _ _ h => h) (Or.inl ⟨by rfl, ?_⟩) hHeld ?_ ?_
  rotate_left
  · intro w' hSw
    obtain ⟨hg_, hT_⟩ := hSw
    have z0 := (blk_cell hg_ 0).trans rfl
    have z1 := (blk_cell hg_ 1).trans rfl
    obtain ⟨t0, t1, t2, t3, t4, t5, -⟩ := hT_.cells
    have lk := hT_.lookA HO.out.2
    rw [show (({ s with fb := upd s.fb (a, p) none, nb := less (s.fb (a, p)) s.nb } : TS).fa p).getD 0 = v from HVV.out] at lk
    go_simp
    with_reducible rfl
  rotate_left
  · simp only [Act.put, List.setIfInBounds_toArray, List.set_cons_zero, List.set_cons_succ, i64_w, i32_w]
    rfl
  refine take_ (i := 6) (N := some 38) (v := ?_) (a' := ?_) (bb 9 127) rfl rfl (by kernel_rfl) (fun _ _ _ h => h) (Or.inl ⟨by rfl, ?_⟩) hHeld ?_ ?_
  rotate_left
  · intro w' hSw
    obtain ⟨hg_, hT_⟩ := hSw
    have z0 := (blk_cell hg_ 0).trans rfl
    have z1 := (blk_cell hg_ 1).trans rfl
    obtain ⟨t0, t1, t2, t3, t4, t5, -⟩ := hT_.cells
    have lk := hT_.lookA HO.out.2
    rw [show (({ s with fb := upd s.fb (a, p) none, nb := less (s.fb (a, p)) s.nb } : TS).fa p).getD 0 = v from HVV.out] at lk
    go_simp
    with_reducible rfl
  rotate_left
  · simp only [Act.put, List.setIfInBounds_toArray, List.set_cons_zero, List.set_cons_succ, i64_w, i32_w]
    rfl
  refine pure_ (i := 7) (N := some 39) (v := ?_) (a' := ?_) (bb 9 255) rfl rfl (by kernel_rfl) (fun _ _ _ h => h) (Or.inl ⟨by rfl, ?_⟩) ?_ ?_
  rotate_left
  · intro w'
    go_simp
    with_reducible rfl
  rotate_left
  · simp only [Act.put, List.setIfInBounds_toArray, List.set_cons_zero, List.set_cons_succ, i64_w, i32_w]
    rfl
  obtain ⟨w6, hup, hT5, hV5⟩ := HT.out.setA HO.out.2 (v - 1)
  refine last_ (i := 8) (N := none) (bb 9 511) rfl rfl (by kernel_rfl) (by decide) (fun K hK => ?_)
  refine skip_ (w1 := w6) (by rfl) rfl (by first | (go_simp; done) | (go_simp; rfl)) ?_
  refine hK.out _ _ ?_
  clear hK K
  refine done_ (by kernel_rfl) ?_
  clear hHeld
  replace HG := Aside0.mk (hV5.box HT.out HG.out (by decide))
  replace HV_ := Aside0.mk (HV_.out.trans hV5)
  replace HT := Aside0.mk hT5
  clear hup hT5 hV5
  go_wp2
  go_ret
  exact ⟨rfl, HT.out, HV_.out⟩
set_option maxRecDepth 100000 in
set_option maxHeartbeats 4000000 in
theorem join_zero1 {b0 b mb ma mj : Nat} {w : World} {s : TS} (h : Tb b0 w b mb ma mj s) (a p c d o : Int) (ho : okQ ((a, p), (c, d))) (hp : p = 0) : Calls Try.prog 56 #[.pointer (some ⟨b, 0, none⟩), .agg #[.int .u32 a, .int .u16 p, .int .u32 c, .int .u16 d], .int .i64 o] w fun e w' => e = .returned (.int .i64 8) ∧ Below w.heap.size w w' := by
  have p1 : (p == 0) = true := beq_iff_eq.2 hp
  have p2 : decide (p = 0) = true := decide_eq_true hp
  clear hp
  have H := Aside0.mk h
  have HO := Aside0.mk ho
  clear h ho
  go_enter Try.func56, Try.ntmps56
  go_upto_region 1 with (fail)
  obtain ⟨hg, hB⟩ := boxed1 w (.cells #[.int .u32 a, .int .u16 p, .int .u32 c, .int .u16 d] 107)
  generalize w.alloc (.cells #[.int .u32 a, .int .u16 p, .int .u32 c, .int .u16 d] 107) = w1 at hg hB ⊢
  have HT := Aside0.mk (H.out.below hB)
  have HB := Aside0.mk hB
  obtain ⟨g, hge⟩ : ∃ g, w.heap.size = g := ⟨_, rfl⟩
  rw [hge] at hg ⊢
  have HG := Aside0.mk hg
  have HGE := Aside0.mk hge
  clear hg hB hge
  have z0 := (blk_cell HG.out 0).trans rfl
  have z1 := (blk_cell HG.out 1).trans rfl
  have z2 := (blk_cell HG.out 2).trans rfl
  have z3 := (blk_cell HG.out 3).trans rfl
  go_wp2
  go_ret
  exact ⟨rfl, HB.out⟩
set_option maxRecDepth 100000 in
set_option maxHeartbeats 4000000 in
theorem join_zero2 {b0 b mb ma mj : Nat} {w : World} {s : TS} (h : Tb b0 w b mb ma mj s) (a p c d o : Int) (ho : okQ ((a, p), (c, d))) (hp : p ≠ 0) (hd : d = 0) : Calls Try.prog 56 #[.pointer (some ⟨b, 0, none⟩), .agg #[.int .u32 a, .int .u16 p, .int .u32 c, .int .u16 d], .int .i64 o] w fun e w' => e = .returned (.int .i64 8) ∧ Below w.heap.size w w' := by
  have p1 : (p == 0) = false := beq_eq_false_iff_ne.2 hp
  have p2 : decide (p = 0) = false := decide_eq_false hp
  have d1 : (d == 0) = true := beq_iff_eq.2 hd
  have d2 : decide (d = 0) = true := decide_eq_true hd
  clear hp hd
  have H := Aside0.mk h
  have HO := Aside0.mk ho
  clear h ho
  go_enter Try.func56, Try.ntmps56
  go_upto_region 1 with (fail)
  obtain ⟨hg, hB⟩ := boxed1 w (.cells #[.int .u32 a, .int .u16 p, .int .u32 c, .int .u16 d] 107)
  generalize w.alloc (.cells #[.int .u32 a, .int .u16 p, .int .u32 c, .int .u16 d] 107) = w1 at hg hB ⊢
  have HT := Aside0.mk (H.out.below hB)
  have HB := Aside0.mk hB
  obtain ⟨g, hge⟩ : ∃ g, w.heap.size = g := ⟨_, rfl⟩
  rw [hge] at hg ⊢
  have HG := Aside0.mk hg
  have HGE := Aside0.mk hge
  clear hg hB hge
  have z0 := (blk_cell HG.out 0).trans rfl
  have z1 := (blk_cell HG.out 1).trans rfl
  have z2 := (blk_cell HG.out 2).trans rfl
  have z3 := (blk_cell HG.out 3).trans rfl
  go_wp2
  go_ret
  exact ⟨rfl, HB.out⟩
set_option maxRecDepth 100000 in
set_option maxHeartbeats 4000000 in
theorem join_same {b0 b mb ma mj : Nat} {w : World} {s : TS} (h : Tb b0 w b mb ma mj s) (a p c d o : Int) (ho : okQ ((a, p), (c, d))) (hp : p ≠ 0) (hd : d ≠ 0) (hq : (s.fj ((a, p), (c, d))).isSome = true) : Calls Try.prog 56 #[.pointer (some ⟨b, 0, none⟩), .agg #[.int .u32 a, .int .u16 p, .int .u32 c, .int .u16 d], .int .i64 o] w fun e w' => e = .returned (.int .i64 140) ∧ Below w.heap.size w w' := by
  have p1 : (p == 0) = false := beq_eq_false_iff_ne.2 hp
  have p2 : decide (p = 0) = false := decide_eq_false hp
  have d1 : (d == 0) = false := beq_eq_false_iff_ne.2 hd
  have d2 : decide (d = 0) = false := decide_eq_false hd
  obtain ⟨v1, hv1⟩ : ∃ v_, (s.fj ((a, p), (c, d))).getD 0 = v_ := ⟨_, rfl⟩
  have HQ := Aside0.mk (And.intro hv1 hq)
  clear hp hd hv1 hq
  have H := Aside0.mk h
  have HO := Aside0.mk ho
  clear h ho
  go_enter Try.func56, Try.ntmps56
  go_upto_region 1 with (fail)
  obtain ⟨hg, hB⟩ := boxed1 w (.cells #[.int .u32 a, .int .u16 p, .int .u32 c, .int .u16 d] 107)
  generalize w.alloc (.cells #[.int .u32 a, .int .u16 p, .int .u32 c, .int .u16 d] 107) = w1 at hg hB ⊢
  have HT := Aside0.mk (H.out.below hB)
  have HB := Aside0.mk hB
  obtain ⟨g, hge⟩ : ∃ g, w.heap.size = g := ⟨_, rfl⟩
  rw [hge] at hg ⊢
  have HG := Aside0.mk hg
  have HGE := Aside0.mk hge
  clear hg hB hge
  have z0 := (blk_cell HG.out 0).trans rfl
  have z1 := (blk_cell HG.out 1).trans rfl
  have z2 := (blk_cell HG.out 2).trans rfl
  have z3 := (blk_cell HG.out 3).trans rfl
  go_upto_region 5 with (fail)
  refine start_ (n := 11) (S := fun w' => w'.heap[g]? = some (.cells #[.int .u32 a, .int .u16 p, .int .u32 c, .int .u16 d] 107 (0, 0)) ∧ Tb b0 w' b mb ma mj s) (ds := []) (bb 11 0) (by kernel_rfl) rfl rfl (⟨HG.out, HT.out.below (below_drew (Below.refl _ _))⟩) (fun hHeld => ?_)
  clear z0 z1 z2 z3
  replace HT := Aside0.mk (HT.out.below (below_drew (Below.refl _ _)))
  replace HG := Aside0.mk (show w1.drew.heap[g]? = _ from HG.out)
  replace HB := Aside0.mk (below_drew HB.out)
  generalize w1.drew = w2 at HT HG HB hHeld ⊢
  refine pure_ (i := 0) (N := some 24) (v := ?_) (a' := ?_) (bb 11 1) rfl rfl (by kernel_rfl) (fun _ _ _ h => h) (Or.inl ⟨by rfl, ?_⟩) ?_ ?_
  rotate_left
  · intro w'
    go_simp
    with_reducible rfl
  rotate_left
  · simp only [Act.put, List.setIfInBounds_toArray, List.set_cons_zero, List.set_cons_succ, i64_w, i32_w]
    rfl
  refine pure_ (i := 1) (N := some 25) (v := ?_) (a' := ?_) (bb 11 3) rfl rfl (by kernel_rfl) (fun _ _ _ h => h) (Or.inl ⟨by rfl, ?_⟩) ?_ ?_
  rotate_left
  · intro w'
    go_simp
    with_reducible rfl
  rotate_left
  · simp only [Act.put, List.setIfInBounds_toArray, List.set_cons_zero, List.set_cons_succ, i64_w, i32_w]
    rfl
  refine pure_ (i := 2) (N := some 26) (v := ?_) (a' := ?_) (bb 11 7) rfl rfl (by kernel_rfl) (fun _ _ _ h => h) (Or.inl ⟨by rfl, ?_⟩) ?_ ?_
  rotate_left
  · intro w'
    go_simp
    with_reducible rfl
  rotate_left
  · simp only [Act.put, List.setIfInBounds_toArray, List.set_cons_zero, List.set_cons_succ, i64_w, i32_w]
    rfl
  refine take_ (i := 3) (N := some 27) (v := ?_) (a' := ?_) (bb 11 15) rfl rfl (by kernel_rfl) (fun _ _ _ h => h) (Or.inl ⟨by rfl, ?_⟩) hHeld ?_ ?_
  rotate_left
  · intro w' hSw
    obtain ⟨hg_, hT_⟩ := hSw
    have z0 := (blk_cell hg_ 0).trans rfl
    have z1 := (blk_cell hg_ 1).trans rfl
    have z2 := (blk_cell hg_ 2).trans rfl
    have z3 := (blk_cell hg_ 3).trans rfl
    obtain ⟨t0, t1, t2, t3, t4, t5, -⟩ := hT_.cells
    have lk := hT_.lookJ HO.out
    rw [HQ.out.1, HQ.out.2] at lk
    go_simp
    with_reducible rfl
  rotate_left
  · simp only [Act.put, List.setIfInBounds_toArray, List.set_cons_zero, List.set_cons_succ, i64_w, i32_w]
    rfl
  refine take_ (i := 4) (N := some 28) (v := ?_) (a' := ?_) (bb 11 31) rfl rfl (by kernel_rfl) (fun _ _ _ h => h) (Or.inl ⟨by rfl, ?_⟩) hHeld ?_ ?_
  rotate_left
  · intro w' hSw
    obtain ⟨hg_, hT_⟩ := hSw
    have z0 := (blk_cell hg_ 0).trans rfl
    have z1 := (blk_cell hg_ 1).trans rfl
    have z2 := (blk_cell hg_ 2).trans rfl
    have z3 := (blk_cell hg_ 3).trans rfl
    obtain ⟨t0, t1, t2, t3, t4, t5, -⟩ := hT_.cells
    have lk := hT_.lookJ HO.out
    rw [HQ.out.1, HQ.out.2] at lk
    go_simp
    with_reducible rfl
  rotate_left
  · simp only [Act.put, List.setIfInBounds_toArray, List.set_cons_zero, List.set_cons_succ, i64_w, i32_w]
    rfl
  refine take_ (i := 5) (N := some 29) (v := ?_) (a' := ?_) (bb 11 63) rfl rfl (by kernel_rfl) (fun _ _ _ h => h) (Or.inl ⟨by rfl, ?_⟩) hHeld ?_ ?_
  rotate_left
  · intro w' hSw
    obtain ⟨hg_, hT_⟩ := hSw
    have z0 := (blk_cell hg_ 0).trans rfl
    have z1 := (blk_cell hg_ 1).trans rfl
    have z2 := (blk_cell hg_ 2).trans rfl
    have z3 := (blk_cell hg_ 3).trans rfl
    obtain ⟨t0, t1, t2, t3, t4, t5, -⟩ := hT_.cells
    have lk := hT_.lookJ HO.out
    rw [HQ.out.1, HQ.out.2] at lk
    go_simp
    with_reducible rfl
  rotate_left
  · simp only [Act.put, List.setIfInBounds_toArray, List.set_cons_zero, List.set_cons_succ, i64_w, i32_w]
    rfl
  refine pure_ (i := 6) (N := some 23) (v := ?_) (a' := ?_) (bb 11 127) rfl rfl (by kernel_rfl) (fun _ _ _ h => h) (Or.inl ⟨by rfl, ?_⟩) ?_ ?_
  rotate_left
  · intro w'
    go_simp
    with_reducible rfl
  rotate_left
  · simp only [Act.put, List.setIfInBounds_toArray, List.set_cons_zero, List.set_cons_succ, i64_w, i32_w]
    rfl
  refine pure_ (i := 7) (N := some 30) (v := ?_) (a' := ?_) (bb 11 255) rfl rfl (by kernel_rfl) (fun _ _ _ h => h) (Or.inl ⟨by rfl, ?_⟩) ?_ ?_
  rotate_left
  · intro w'
    go_simp
    with_reducible rfl
  rotate_left
  · simp only [Act.put, List.setIfInBounds_toArray, List.set_cons_zero, List.set_cons_succ, i64_w, i32_w]
    rfl
  refine pure_ (i := 8) (N := some 31) (v := ?_) (a' := ?_) (bb 11 511) rfl rfl (by kernel_rfl) (fun _ _ _ h => h) (Or.inl ⟨by rfl, ?_⟩) ?_ ?_
  rotate_left
  · intro w'
    go_simp
    with_reducible rfl
  rotate_left
  · simp only [Act.put, List.setIfInBounds_toArray, List.set_cons_zero, List.set_cons_succ, i64_w, i32_w]
    rfl
  refine pure_ (i := 9) (N := some 7) (v := ?_) (a' := ?_) (bb 11 1023) rfl rfl (by kernel_rfl) (fun _ _ _ h => h) (Or.inl ⟨by rfl, ?_⟩) ?_ ?_
  rotate_left
  · intro w'
    go_simp
    with_reducible rfl
  rotate_left
  · simp only [Act.put, List.setIfInBounds_toArray, List.set_cons_zero, List.set_cons_succ, i64_w, i32_w]
    rfl
  refine pure_ (i := 10) (N := some 8) (v := ?_) (a' := ?_) (bb 11 2047) rfl rfl (by kernel_rfl) (fun _ _ _ h => h) (Or.inl ⟨by rfl, ?_⟩) ?_ ?_
  rotate_left
  · intro w'
    go_simp
    with_reducible rfl
  rotate_left
  · simp only [Act.put, List.setIfInBounds_toArray, List.set_cons_zero, List.set_cons_succ, i64_w, i32_w]
    rfl
  refine done_ (by kernel_rfl) ?_
  clear hHeld
  go_wp2
  go_ret
  exact ⟨rfl, HB.out⟩
set_option maxRecDepth 100000 in
set_option maxHeartbeats 4000000 in
theorem join_full {b0 b mb ma mj : Nat} {w : World} {s : TS} (h : Tb b0 w b mb ma mj s) (a p c d o : Int) (ho : okQ ((a, p), (c, d))) (hp : p ≠ 0) (hd : d ≠ 0) (hq : (s.fj ((a, p), (c, d))).isSome = false) (hn : 1024 ≤ s.nj) : Calls Try.prog 56 #[.pointer (some ⟨b, 0, none⟩), .agg #[.int .u32 a, .int .u16 p, .int .u32 c, .int .u16 d], .int .i64 o] w fun e w' => e = .returned (.int .i64 5) ∧ Below w.heap.size w w' := by
  have p1 : (p == 0) = false := beq_eq_false_iff_ne.2 hp
  have p2 : decide (p = 0) = false := decide_eq_false hp
  have d1 : (d == 0) = false := beq_eq_false_iff_ne.2 hd
  have d2 : decide (d = 0) = false := decide_eq_false hd
  obtain ⟨v1, hv1⟩ : ∃ v_, (s.fj ((a, p), (c, d))).getD 0 = v_ := ⟨_, rfl⟩
  have HQ := Aside0.mk (And.intro hv1 hq)
  have n1 : decide (1024 ≤ (s.nj : Int)) = true := decide_eq_true (by omega)
  clear hp hd hv1 hq hn
  have H := Aside0.mk h
  have HO := Aside0.mk ho
  clear h ho
  go_enter Try.func56, Try.ntmps56
  go_upto_region 1 with (fail)
  obtain ⟨hg, hB⟩ := boxed1 w (.cells #[.int .u32 a, .int .u16 p, .int .u32 c, .int .u16 d] 107)
  generalize w.alloc (.cells #[.int .u32 a, .int .u16 p, .int .u32 c, .int .u16 d] 107) = w1 at hg hB ⊢
  have HT := Aside0.mk (H.out.below hB)
  have HB := Aside0.mk hB
  obtain ⟨g, hge⟩ : ∃ g, w.heap.size = g := ⟨_, rfl⟩
  rw [hge] at hg ⊢
  have HG := Aside0.mk hg
  have HGE := Aside0.mk hge
  clear hg hB hge
  have z0 := (blk_cell HG.out 0).trans rfl
  have z1 := (blk_cell HG.out 1).trans rfl
  have z2 := (blk_cell HG.out 2).trans rfl
  have z3 := (blk_cell HG.out 3).trans rfl
  go_upto_region 5 with (fail)
  refine start_ (n := 11) (S := fun w' => w'.heap[g]? = some (.cells #[.int .u32 a, .int .u16 p, .int .u32 c, .int .u16 d] 107 (0, 0)) ∧ Tb b0 w' b mb ma mj s) (ds := []) (bb 11 0) (by kernel_rfl) rfl rfl (⟨HG.out, HT.out.below (below_drew (Below.refl _ _))⟩) (fun hHeld => ?_)
  clear z0 z1 z2 z3
  replace HT := Aside0.mk (HT.out.below (below_drew (Below.refl _ _)))
  replace HG := Aside0.mk (show w1.drew.heap[g]? = _ from HG.out)
  replace HB := Aside0.mk (below_drew HB.out)
  generalize w1.drew = w2 at HT HG HB hHeld ⊢
  refine pure_ (i := 0) (N := some 24) (v := ?_) (a' := ?_) (bb 11 1) rfl rfl (by kernel_rfl) (fun _ _ _ h => h) (Or.inl ⟨by rfl, ?_⟩) ?_ ?_
  rotate_left
  · intro w'
    go_simp
    with_reducible rfl
  rotate_left
  · simp only [Act.put, List.setIfInBounds_toArray, List.set_cons_zero, List.set_cons_succ, i64_w, i32_w]
    rfl
  refine pure_ (i := 1) (N := some 25) (v := ?_) (a' := ?_) (bb 11 3) rfl rfl (by kernel_rfl) (fun _ _ _ h => h) (Or.inl ⟨by rfl, ?_⟩) ?_ ?_
  rotate_left
  · intro w'
    go_simp
    with_reducible rfl
  rotate_left
  · simp only [Act.put, List.setIfInBounds_toArray, List.set_cons_zero, List.set_cons_succ, i64_w, i32_w]
    rfl
  refine pure_ (i := 2) (N := some 26) (v := ?_) (a' := ?_) (bb 11 7) rfl rfl (by kernel_rfl) (fun _ _ _ h => h) (Or.inl ⟨by rfl, ?_⟩) ?_ ?_
  rotate_left
  · intro w'
    go_simp
    with_reducible rfl
  rotate_left
  · simp only [Act.put, List.setIfInBounds_toArray, List.set_cons_zero, List.set_cons_succ, i64_w, i32_w]
    rfl
  refine take_ (i := 3) (N := some 27) (v := ?_) (a' := ?_) (bb 11 15) rfl rfl (by kernel_rfl) (fun _ _ _ h => h) (Or.inl ⟨by rfl, ?_⟩) hHeld ?_ ?_
  rotate_left
  · intro w' hSw
    obtain ⟨hg_, hT_⟩ := hSw
    have z0 := (blk_cell hg_ 0).trans rfl
    have z1 := (blk_cell hg_ 1).trans rfl
    have z2 := (blk_cell hg_ 2).trans rfl
    have z3 := (blk_cell hg_ 3).trans rfl
    obtain ⟨t0, t1, t2, t3, t4, t5, -⟩ := hT_.cells
    have lk := hT_.lookJ HO.out
    rw [HQ.out.1, HQ.out.2] at lk
    go_simp
    with_reducible rfl
  rotate_left
  · simp only [Act.put, List.setIfInBounds_toArray, List.set_cons_zero, List.set_cons_succ, i64_w, i32_w]
    rfl
  refine take_ (i := 4) (N := some 28) (v := ?_) (a' := ?_) (bb 11 31) rfl rfl (by kernel_rfl) (fun _ _ _ h => h) (Or.inl ⟨by rfl, ?_⟩) hHeld ?_ ?_
  rotate_left
  · intro w' hSw
    obtain ⟨hg_, hT_⟩ := hSw
    have z0 := (blk_cell hg_ 0).trans rfl
    have z1 := (blk_cell hg_ 1).trans rfl
    have z2 := (blk_cell hg_ 2).trans rfl
    have z3 := (blk_cell hg_ 3).trans rfl
    obtain ⟨t0, t1, t2, t3, t4, t5, -⟩ := hT_.cells
    have lk := hT_.lookJ HO.out
    rw [HQ.out.1, HQ.out.2] at lk
    go_simp
    with_reducible rfl
  rotate_left
  · simp only [Act.put, List.setIfInBounds_toArray, List.set_cons_zero, List.set_cons_succ, i64_w, i32_w]
    rfl
  refine take_ (i := 5) (N := some 29) (v := ?_) (a' := ?_) (bb 11 63) rfl rfl (by kernel_rfl) (fun _ _ _ h => h) (Or.inl ⟨by rfl, ?_⟩) hHeld ?_ ?_
  rotate_left
  · intro w' hSw
    obtain ⟨hg_, hT_⟩ := hSw
    have z0 := (blk_cell hg_ 0).trans rfl
    have z1 := (blk_cell hg_ 1).trans rfl
    have z2 := (blk_cell hg_ 2).trans rfl
    have z3 := (blk_cell hg_ 3).trans rfl
    obtain ⟨t0, t1, t2, t3, t4, t5, -⟩ := hT_.cells
    have lk := hT_.lookJ HO.out
    rw [HQ.out.1, HQ.out.2] at lk
    go_simp
    with_reducible rfl
  rotate_left
  · simp only [Act.put, List.setIfInBounds_toArray, List.set_cons_zero, List.set_cons_succ, i64_w, i32_w]
    rfl
  refine pure_ (i := 6) (N := some 23) (v := ?_) (a' := ?_) (bb 11 127) rfl rfl (by kernel_rfl) (fun _ _ _ h => h) (Or.inl ⟨by rfl, ?_⟩) ?_ ?_
  rotate_left
  · intro w'
    go_simp
    with_reducible rfl
  rotate_left
  · simp only [Act.put, List.setIfInBounds_toArray, List.set_cons_zero, List.set_cons_succ, i64_w, i32_w]
    rfl
  refine pure_ (i := 7) (N := some 30) (v := ?_) (a' := ?_) (bb 11 255) rfl rfl (by kernel_rfl) (fun _ _ _ h => h) (Or.inl ⟨by rfl, ?_⟩) ?_ ?_
  rotate_left
  · intro w'
    go_simp
    with_reducible rfl
  rotate_left
  · simp only [Act.put, List.setIfInBounds_toArray, List.set_cons_zero, List.set_cons_succ, i64_w, i32_w]
    rfl
  refine pure_ (i := 8) (N := some 31) (v := ?_) (a' := ?_) (bb 11 511) rfl rfl (by kernel_rfl) (fun _ _ _ h => h) (Or.inl ⟨by rfl, ?_⟩) ?_ ?_
  rotate_left
  · intro w'
    go_simp
    with_reducible rfl
  rotate_left
  · simp only [Act.put, List.setIfInBounds_toArray, List.set_cons_zero, List.set_cons_succ, i64_w, i32_w]
    rfl
  refine pure_ (i := 9) (N := some 7) (v := ?_) (a' := ?_) (bb 11 1023) rfl rfl (by kernel_rfl) (fun _ _ _ h => h) (Or.inl ⟨by rfl, ?_⟩) ?_ ?_
  rotate_left
  · intro w'
    go_simp
    with_reducible rfl
  rotate_left
  · simp only [Act.put, List.setIfInBounds_toArray, List.set_cons_zero, List.set_cons_succ, i64_w, i32_w]
    rfl
  refine pure_ (i := 10) (N := some 8) (v := ?_) (a' := ?_) (bb 11 2047) rfl rfl (by kernel_rfl) (fun _ _ _ h => h) (Or.inl ⟨by rfl, ?_⟩) ?_ ?_
  rotate_left
  · intro w'
    go_simp
    with_reducible rfl
  rotate_left
  · simp only [Act.put, List.setIfInBounds_toArray, List.set_cons_zero, List.set_cons_succ, i64_w, i32_w]
    rfl
  refine done_ (by kernel_rfl) ?_
  clear hHeld
  obtain ⟨t0, t1, t2, t3, t4, t5, -⟩ := HT.out.cells
  have ln := HT.out.lenJ 3
  go_wp2
  go_ret
  exact ⟨rfl, HB.out⟩
set_option maxRecDepth 100000 in
set_option maxHeartbeats 4000000 in
theorem join_in {b0 b mb ma mj : Nat} {w : World} {s : TS} (h : Tb b0 w b mb ma mj s) (a p c d o : Int) (ho : okQ ((a, p), (c, d))) (hp : p ≠ 0) (hd : d ≠ 0) (hq : (s.fj ((a, p), (c, d))).isSome = false) (hn : s.nj < 1024) : Calls Try.prog 56 #[.pointer (some ⟨b, 0, none⟩), .agg #[.int .u32 a, .int .u16 p, .int .u32 c, .int .u16 d], .int .i64 o] w fun e w' => e = .returned (.int .i64 0) ∧ Tb b0 w' b mb ma mj { s with fj := upd s.fj ((a, p), (c, d)) (some o), nj := one (s.fj ((a, p), (c, d))) s.nj } ∧ Tv w w' b mb ma mj := by
  have p1 : (p == 0) = false := beq_eq_false_iff_ne.2 hp
  have p2 : decide (p = 0) = false := decide_eq_false hp
  have d1 : (d == 0) = false := beq_eq_false_iff_ne.2 hd
  have d2 : decide (d = 0) = false := decide_eq_false hd
  obtain ⟨v1, hv1⟩ : ∃ v_, (s.fj ((a, p), (c, d))).getD 0 = v_ := ⟨_, rfl⟩
  have HQ := Aside0.mk (And.intro hv1 hq)
  have n1 : decide (1024 ≤ (s.nj : Int)) = false := decide_eq_false (by omega)
  clear hp hd hv1 hq hn
  have H := Aside0.mk h
  have HO := Aside0.mk ho
  clear h ho
  go_enter Try.func56, Try.ntmps56
  go_upto_region 1 with (fail)
  obtain ⟨hg, hB⟩ := boxed1 w (.cells #[.int .u32 a, .int .u16 p, .int .u32 c, .int .u16 d] 107)
  generalize w.alloc (.cells #[.int .u32 a, .int .u16 p, .int .u32 c, .int .u16 d] 107) = w1 at hg hB ⊢
  have HT := Aside0.mk (H.out.below hB)
  have HB := Aside0.mk hB
  obtain ⟨g, hge⟩ : ∃ g, w.heap.size = g := ⟨_, rfl⟩
  rw [hge] at hg ⊢
  have HG := Aside0.mk hg
  have HGE := Aside0.mk hge
  clear hg hB hge
  have z0 := (blk_cell HG.out 0).trans rfl
  have z1 := (blk_cell HG.out 1).trans rfl
  have z2 := (blk_cell HG.out 2).trans rfl
  have z3 := (blk_cell HG.out 3).trans rfl
  go_upto_region 5 with (fail)
  refine start_ (n := 11) (S := fun w' => w'.heap[g]? = some (.cells #[.int .u32 a, .int .u16 p, .int .u32 c, .int .u16 d] 107 (0, 0)) ∧ Tb b0 w' b mb ma mj s) (ds := []) (bb 11 0) (by kernel_rfl) rfl rfl (⟨HG.out, HT.out.below (below_drew (Below.refl _ _))⟩) (fun hHeld => ?_)
  clear z0 z1 z2 z3
  replace HT := Aside0.mk (HT.out.below (below_drew (Below.refl _ _)))
  replace HG := Aside0.mk (show w1.drew.heap[g]? = _ from HG.out)
  replace HB := Aside0.mk (below_drew HB.out)
  generalize w1.drew = w2 at HT HG HB hHeld ⊢
  refine pure_ (i := 0) (N := some 24) (v := ?_) (a' := ?_) (bb 11 1) rfl rfl (by kernel_rfl) (fun _ _ _ h => h) (Or.inl ⟨by rfl, ?_⟩) ?_ ?_
  rotate_left
  · intro w'
    go_simp
    with_reducible rfl
  rotate_left
  · simp only [Act.put, List.setIfInBounds_toArray, List.set_cons_zero, List.set_cons_succ, i64_w, i32_w]
    rfl
  refine pure_ (i := 1) (N := some 25) (v := ?_) (a' := ?_) (bb 11 3) rfl rfl (by kernel_rfl) (fun _ _ _ h => h) (Or.inl ⟨by rfl, ?_⟩) ?_ ?_
  rotate_left
  · intro w'
    go_simp
    with_reducible rfl
  rotate_left
  · simp only [Act.put, List.setIfInBounds_toArray, List.set_cons_zero, List.set_cons_succ, i64_w, i32_w]
    rfl
  refine pure_ (i := 2) (N := some 26) (v := ?_) (a' := ?_) (bb 11 7) rfl rfl (by kernel_rfl) (fun _ _ _ h => h) (Or.inl ⟨by rfl, ?_⟩) ?_ ?_
  rotate_left
  · intro w'
    go_simp
    with_reducible rfl
  rotate_left
  · simp only [Act.put, List.setIfInBounds_toArray, List.set_cons_zero, List.set_cons_succ, i64_w, i32_w]
    rfl
  refine take_ (i := 3) (N := some 27) (v := ?_) (a' := ?_) (bb 11 15) rfl rfl (by kernel_rfl) (fun _ _ _ h => h) (Or.inl ⟨by rfl, ?_⟩) hHeld ?_ ?_
  rotate_left
  · intro w' hSw
    obtain ⟨hg_, hT_⟩ := hSw
    have z0 := (blk_cell hg_ 0).trans rfl
    have z1 := (blk_cell hg_ 1).trans rfl
    have z2 := (blk_cell hg_ 2).trans rfl
    have z3 := (blk_cell hg_ 3).trans rfl
    obtain ⟨t0, t1, t2, t3, t4, t5, -⟩ := hT_.cells
    have lk := hT_.lookJ HO.out
    rw [HQ.out.1, HQ.out.2] at lk
    go_simp
    with_reducible rfl
  rotate_left
  · simp only [Act.put, List.setIfInBounds_toArray, List.set_cons_zero, List.set_cons_succ, i64_w, i32_w]
    rfl
  refine take_ (i := 4) (N := some 28) (v := ?_) (a' := ?_) (bb 11 31) rfl rfl (by kernel_rfl) (fun _ _ _ h => h) (Or.inl ⟨by rfl, ?_⟩) hHeld ?_ ?_
  rotate_left
  · intro w' hSw
    obtain ⟨hg_, hT_⟩ := hSw
    have z0 := (blk_cell hg_ 0).trans rfl
    have z1 := (blk_cell hg_ 1).trans rfl
    have z2 := (blk_cell hg_ 2).trans rfl
    have z3 := (blk_cell hg_ 3).trans rfl
    obtain ⟨t0, t1, t2, t3, t4, t5, -⟩ := hT_.cells
    have lk := hT_.lookJ HO.out
    rw [HQ.out.1, HQ.out.2] at lk
    go_simp
    with_reducible rfl
  rotate_left
  · simp only [Act.put, List.setIfInBounds_toArray, List.set_cons_zero, List.set_cons_succ, i64_w, i32_w]
    rfl
  refine take_ (i := 5) (N := some 29) (v := ?_) (a' := ?_) (bb 11 63) rfl rfl (by kernel_rfl) (fun _ _ _ h => h) (Or.inl ⟨by rfl, ?_⟩) hHeld ?_ ?_
  rotate_left
  · intro w' hSw
    obtain ⟨hg_, hT_⟩ := hSw
    have z0 := (blk_cell hg_ 0).trans rfl
    have z1 := (blk_cell hg_ 1).trans rfl
    have z2 := (blk_cell hg_ 2).trans rfl
    have z3 := (blk_cell hg_ 3).trans rfl
    obtain ⟨t0, t1, t2, t3, t4, t5, -⟩ := hT_.cells
    have lk := hT_.lookJ HO.out
    rw [HQ.out.1, HQ.out.2] at lk
    go_simp
    with_reducible rfl
  rotate_left
  · simp only [Act.put, List.setIfInBounds_toArray, List.set_cons_zero, List.set_cons_succ, i64_w, i32_w]
    rfl
  refine pure_ (i := 6) (N := some 23) (v := ?_) (a' := ?_) (bb 11 127) rfl rfl (by kernel_rfl) (fun _ _ _ h => h) (Or.inl ⟨by rfl, ?_⟩) ?_ ?_
  rotate_left
  · intro w'
    go_simp
    with_reducible rfl
  rotate_left
  · simp only [Act.put, List.setIfInBounds_toArray, List.set_cons_zero, List.set_cons_succ, i64_w, i32_w]
    rfl
  refine pure_ (i := 7) (N := some 30) (v := ?_) (a' := ?_) (bb 11 255) rfl rfl (by kernel_rfl) (fun _ _ _ h => h) (Or.inl ⟨by rfl, ?_⟩) ?_ ?_
  rotate_left
  · intro w'
    go_simp
    with_reducible rfl
  rotate_left
  · simp only [Act.put, List.setIfInBounds_toArray, List.set_cons_zero, List.set_cons_succ, i64_w, i32_w]
    rfl
  refine pure_ (i := 8) (N := some 31) (v := ?_) (a' := ?_) (bb 11 511) rfl rfl (by kernel_rfl) (fun _ _ _ h => h) (Or.inl ⟨by rfl, ?_⟩) ?_ ?_
  rotate_left
  · intro w'
    go_simp
    with_reducible rfl
  rotate_left
  · simp only [Act.put, List.setIfInBounds_toArray, List.set_cons_zero, List.set_cons_succ, i64_w, i32_w]
    rfl
  refine pure_ (i := 9) (N := some 7) (v := ?_) (a' := ?_) (bb 11 1023) rfl rfl (by kernel_rfl) (fun _ _ _ h => h) (Or.inl ⟨by rfl, ?_⟩) ?_ ?_
  rotate_left
  · intro w'
    go_simp
    with_reducible rfl
  rotate_left
  · simp only [Act.put, List.setIfInBounds_toArray, List.set_cons_zero, List.set_cons_succ, i64_w, i32_w]
    rfl
  refine pure_ (i := 10) (N := some 8) (v := ?_) (a' := ?_) (bb 11 2047) rfl rfl (by kernel_rfl) (fun _ _ _ h => h) (Or.inl ⟨by rfl, ?_⟩) ?_ ?_
  rotate_left
  · intro w'
    go_simp
    with_reducible rfl
  rotate_left
  · simp only [Act.put, List.setIfInBounds_toArray, List.set_cons_zero, List.set_cons_succ, i64_w, i32_w]
    rfl
  refine done_ (by kernel_rfl) ?_
  clear hHeld
  obtain ⟨t0, t1, t2, t3, t4, t5, -⟩ := HT.out.cells
  have ln := HT.out.lenJ 3
  go_upto_region 10 with (fail)
  clear t0 t1 t2 t3 t4 t5 ln
  have HV_ := Aside0.mk (Tv.of_below (b := b) (mb := mb) (ma := ma) (mj := mj) HB.out)
  refine start_ (n := 7) (S := fun w' => w'.heap[g]? = some (.cells #[.int .u32 a, .int .u16 p, .int .u32 c, .int .u16 d] 107 (0, 0)) ∧ Tb b0 w' b mb ma mj s) (ds := [6]) (bb 7 0) (by kernel_rfl) rfl rfl (⟨HG.out, HT.out.below (below_drew (Below.refl _ _))⟩) (fun hHeld => ?_)
  replace HV_ := Aside0.mk (HV_.out.trans (Tv.of_below (below_drew (Below.refl _ _))))
  replace HT := Aside0.mk (HT.out.below (below_drew (Below.refl _ _)))
  replace HG := Aside0.mk (show w2.drew.heap[g]? = _ from HG.out)
  generalize w2.drew = w3 at HT HG HV_ hHeld ⊢
  refine pure_ (i := 0) (N := some 39) (v := ?_) (a' := ?_) (bb 7 1) rfl rfl (by kernel_rfl) (fun _ _ _ h => h) (Or.inl ⟨by rfl, ?_⟩) ?_ ?_
  rotate_left
  · intro w'
    go_simp
    with_reducible rfl
  rotate_left
  · simp only [Act.put, List.setIfInBounds_toArray, List.set_cons_zero, List.set_cons_succ, i64_w, i32_w]
    rfl
  refine pure_ (i := 1) (N := some 40) (v := ?_) (a' := ?_) (bb 7 3) rfl rfl (by kernel_rfl) (fun _ _ _ h => h) (Or.inl ⟨by rfl, ?_⟩) ?_ ?_
  rotate_left
  · intro w'
    go_simp
    with_reducible rfl
  rotate_left
  · simp only [Act.put, List.setIfInBounds_toArray, List.set_cons_zero, List.set_cons_succ, i64_w, i32_w]
    rfl
  refine pure_ (i := 2) (N := some 41) (v := ?_) (a' := ?_) (bb 7 7) rfl rfl (by kernel_rfl) (fun _ _ _ h => h) (Or.inl ⟨by rfl, ?_⟩) ?_ ?_
  rotate_left
  · intro w'
    go_simp
    with_reducible rfl
  rotate_left
  · simp only [Act.put, List.setIfInBounds_toArray, List.set_cons_zero, List.set_cons_succ, i64_w, i32_w]
    rfl
  refine take_ (i := 3) (N := some 42) (v := ?_) (a' := ?_) (bb 7 15) rfl rfl (by kernel_rfl) (fun _ _ _ h => h) (Or.inl ⟨by rfl, ?_⟩) hHeld ?_ ?_
  rotate_left
  · intro w' hSw
    obtain ⟨hg_, hT_⟩ := hSw
    have z0 := (blk_cell hg_ 0).trans rfl
    have z1 := (blk_cell hg_ 1).trans rfl
    have z2 := (blk_cell hg_ 2).trans rfl
    have z3 := (blk_cell hg_ 3).trans rfl
    obtain ⟨t0, t1, t2, t3, t4, t5, -⟩ := hT_.cells
    go_simp
    with_reducible rfl
  rotate_left
  · simp only [Act.put, List.setIfInBounds_toArray, List.set_cons_zero, List.set_cons_succ, i64_w, i32_w]
    rfl
  refine take_ (i := 4) (N := some 43) (v := ?_) (a' := ?_) (bb 7 31) rfl rfl (by kernel_rfl) (fun _ _ _ h => h) (Or.inl ⟨by rfl, ?_⟩) hHeld ?_ ?_
  rotate_left
  · intro w' hSw
    obtain ⟨hg_, hT_⟩ := hSw
    have z0 := (blk_cell hg_ 0).trans rfl
    have z1 := (blk_cell hg_ 1).trans rfl
    have z2 := (blk_cell hg_ 2).trans rfl
    have z3 := (blk_cell hg_ 3).trans rfl
    obtain ⟨t0, t1, t2, t3, t4, t5, -⟩ := hT_.cells
    go_simp
    with_reducible rfl
  rotate_left
  · simp only [Act.put, List.setIfInBounds_toArray, List.set_cons_zero, List.set_cons_succ, i64_w, i32_w]
    rfl
  refine pure_ (i := 5) (N := some 44) (v := ?_) (a' := ?_) (bb 7 63) rfl rfl (by kernel_rfl) (fun _ _ _ h => h) (Or.inl ⟨by rfl, ?_⟩) ?_ ?_
  rotate_left
  · intro w'
    go_simp
    with_reducible rfl
  rotate_left
  · simp only [Act.put, List.setIfInBounds_toArray, List.set_cons_zero, List.set_cons_succ, i64_w, i32_w]
    rfl
  obtain ⟨w4, hup, hT5, hV5⟩ := HT.out.setJ HO.out o
  refine last_ (i := 6) (N := none) (bb 7 127) rfl rfl (by kernel_rfl) (by decide) (fun K hK => ?_)
  refine skip_ (w1 := w4) (by rfl) rfl (by first | (go_simp; done) | (go_simp; rfl)) ?_
  refine hK.out _ _ ?_
  clear hK K
  refine done_ (by kernel_rfl) ?_
  clear hHeld
  replace HG := Aside0.mk (hV5.box HT.out HG.out (by decide))
  replace HV_ := Aside0.mk (HV_.out.trans hV5)
  replace HT := Aside0.mk hT5
  clear hup hT5 hV5
  go_wp2
  go_ret
  exact ⟨rfl, HT.out, HV_.out⟩
set_option maxRecDepth 100000 in
set_option maxHeartbeats 4000000 in
theorem part_none {b0 b mb ma mj : Nat} {w : World} {s : TS} (h : Tb b0 w b mb ma mj s) (a p c d : Int) (ho : okQ ((a, p), (c, d))) (hq : (s.fj ((a, p), (c, d))).isSome = false) : Calls Try.prog 59 #[.pointer (some ⟨b, 0, none⟩), .agg #[.int .u32 a, .int .u16 p, .int .u32 c, .int .u16 d]] w fun e w' => e = .returned (.int .i64 6) ∧ Below w.heap.size w w' := by
  obtain ⟨v1, hv1⟩ : ∃ v_, (s.fj ((a, p), (c, d))).getD 0 = v_ := ⟨_, rfl⟩
  have HQ := Aside0.mk (And.intro hv1 hq)
  clear hv1 hq
  have H := Aside0.mk h
  have HO := Aside0.mk ho
  clear h ho
  go_enter Try.func59, Try.ntmps59
  go_upto_region 1 with (fail)
  obtain ⟨hg, hB⟩ := boxed1 w (.cells #[.int .u32 a, .int .u16 p, .int .u32 c, .int .u16 d] 107)
  generalize w.alloc (.cells #[.int .u32 a, .int .u16 p, .int .u32 c, .int .u16 d] 107) = w1 at hg hB ⊢
  have HT := Aside0.mk (H.out.below hB)
  have HB := Aside0.mk hB
  obtain ⟨g, hge⟩ : ∃ g, w.heap.size = g := ⟨_, rfl⟩
  rw [hge] at hg ⊢
  have HG := Aside0.mk hg
  have HGE := Aside0.mk hge
  clear hg hB hge
  go_upto_region 3 with (fail)
  refine start_ (n := 11) (S := fun w' => w'.heap[g]? = some (.cells #[.int .u32 a, .int .u16 p, .int .u32 c, .int .u16 d] 107 (0, 0)) ∧ Tb b0 w' b mb ma mj s) (ds := []) (bb 11 0) (by kernel_rfl) rfl rfl (⟨HG.out, HT.out.below (below_drew (Below.refl _ _))⟩) (fun hHeld => ?_)
  replace HT := Aside0.mk (HT.out.below (below_drew (Below.refl _ _)))
  replace HG := Aside0.mk (show w1.drew.heap[g]? = _ from HG.out)
  replace HB := Aside0.mk (below_drew HB.out)
  generalize w1.drew = w2 at HT HG HB hHeld ⊢
  refine pure_ (i := 0) (N := some 10) (v := ?_) (a' := ?_) (bb 11 1) rfl rfl (by kernel_rfl) (fun _ _ _ h => h) (Or.inl ⟨by rfl, ?_⟩) ?_ ?_
  rotate_left
  · intro w'
    go_simp
    with_reducible rfl
  rotate_left
  · simp only [Act.put, List.setIfInBounds_toArray, List.set_cons_zero, List.set_cons_succ, i64_w, i32_w]
    rfl
  refine pure_ (i := 1) (N := some 11) (v := ?_) (a' := ?_) (bb 11 3) rfl rfl (by kernel_rfl) (fun _ _ _ h => h) (Or.inl ⟨by rfl, ?_⟩) ?_ ?_
  rotate_left
  · intro w'
    go_simp
    with_reducible rfl
  rotate_left
  · simp only [Act.put, List.setIfInBounds_toArray, List.set_cons_zero, List.set_cons_succ, i64_w, i32_w]
    rfl
  refine pure_ (i := 2) (N := some 12) (v := ?_) (a' := ?_) (bb 11 7) rfl rfl (by kernel_rfl) (fun _ _ _ h => h) (Or.inl ⟨by rfl, ?_⟩) ?_ ?_
  rotate_left
  · intro w'
    go_simp
    with_reducible rfl
  rotate_left
  · simp only [Act.put, List.setIfInBounds_toArray, List.set_cons_zero, List.set_cons_succ, i64_w, i32_w]
    rfl
  refine take_ (i := 3) (N := some 13) (v := ?_) (a' := ?_) (bb 11 15) rfl rfl (by kernel_rfl) (fun _ _ _ h => h) (Or.inl ⟨by rfl, ?_⟩) hHeld ?_ ?_
  rotate_left
  · intro w' hSw
    obtain ⟨hg_, hT_⟩ := hSw
    have z0 := (blk_cell hg_ 0).trans rfl
    have z1 := (blk_cell hg_ 1).trans rfl
    have z2 := (blk_cell hg_ 2).trans rfl
    have z3 := (blk_cell hg_ 3).trans rfl
    obtain ⟨t0, t1, t2, t3, t4, t5, -⟩ := hT_.cells
    have lk := hT_.lookJ HO.out
    rw [HQ.out.1, HQ.out.2] at lk
    go_simp
    with_reducible rfl
  rotate_left
  · simp only [Act.put, List.setIfInBounds_toArray, List.set_cons_zero, List.set_cons_succ, i64_w, i32_w]
    rfl
  refine take_ (i := 4) (N := some 14) (v := ?_) (a' := ?_) (bb 11 31) rfl rfl (by kernel_rfl) (fun _ _ _ h => h) (Or.inl ⟨by rfl, ?_⟩) hHeld ?_ ?_
  rotate_left
  · intro w' hSw
    obtain ⟨hg_, hT_⟩ := hSw
    have z0 := (blk_cell hg_ 0).trans rfl
    have z1 := (blk_cell hg_ 1).trans rfl
    have z2 := (blk_cell hg_ 2).trans rfl
    have z3 := (blk_cell hg_ 3).trans rfl
    obtain ⟨t0, t1, t2, t3, t4, t5, -⟩ := hT_.cells
    have lk := hT_.lookJ HO.out
    rw [HQ.out.1, HQ.out.2] at lk
    go_simp
    with_reducible rfl
  rotate_left
  · simp only [Act.put, List.setIfInBounds_toArray, List.set_cons_zero, List.set_cons_succ, i64_w, i32_w]
    rfl
  refine take_ (i := 5) (N := some 15) (v := ?_) (a' := ?_) (bb 11 63) rfl rfl (by kernel_rfl) (fun _ _ _ h => h) (Or.inl ⟨by rfl, ?_⟩) hHeld ?_ ?_
  rotate_left
  · intro w' hSw
    obtain ⟨hg_, hT_⟩ := hSw
    have z0 := (blk_cell hg_ 0).trans rfl
    have z1 := (blk_cell hg_ 1).trans rfl
    have z2 := (blk_cell hg_ 2).trans rfl
    have z3 := (blk_cell hg_ 3).trans rfl
    obtain ⟨t0, t1, t2, t3, t4, t5, -⟩ := hT_.cells
    have lk := hT_.lookJ HO.out
    rw [HQ.out.1, HQ.out.2] at lk
    go_simp
    with_reducible rfl
  rotate_left
  · simp only [Act.put, List.setIfInBounds_toArray, List.set_cons_zero, List.set_cons_succ, i64_w, i32_w]
    rfl
  refine pure_ (i := 6) (N := some 9) (v := ?_) (a' := ?_) (bb 11 127) rfl rfl (by kernel_rfl) (fun _ _ _ h => h) (Or.inl ⟨by rfl, ?_⟩) ?_ ?_
  rotate_left
  · intro w'
    go_simp
    with_reducible rfl
  rotate_left
  · simp only [Act.put, List.setIfInBounds_toArray, List.set_cons_zero, List.set_cons_succ, i64_w, i32_w]
    rfl
  refine pure_ (i := 7) (N := some 16) (v := ?_) (a' := ?_) (bb 11 255) rfl rfl (by kernel_rfl) (fun _ _ _ h => h) (Or.inl ⟨by rfl, ?_⟩) ?_ ?_
  rotate_left
  · intro w'
    go_simp
    with_reducible rfl
  rotate_left
  · simp only [Act.put, List.setIfInBounds_toArray, List.set_cons_zero, List.set_cons_succ, i64_w, i32_w]
    rfl
  refine pure_ (i := 8) (N := some 17) (v := ?_) (a' := ?_) (bb 11 511) rfl rfl (by kernel_rfl) (fun _ _ _ h => h) (Or.inl ⟨by rfl, ?_⟩) ?_ ?_
  rotate_left
  · intro w'
    go_simp
    with_reducible rfl
  rotate_left
  · simp only [Act.put, List.setIfInBounds_toArray, List.set_cons_zero, List.set_cons_succ, i64_w, i32_w]
    rfl
  refine pure_ (i := 9) (N := some 5) (v := ?_) (a' := ?_) (bb 11 1023) rfl rfl (by kernel_rfl) (fun _ _ _ h => h) (Or.inl ⟨by rfl, ?_⟩) ?_ ?_
  rotate_left
  · intro w'
    go_simp
    with_reducible rfl
  rotate_left
  · simp only [Act.put, List.setIfInBounds_toArray, List.set_cons_zero, List.set_cons_succ, i64_w, i32_w]
    rfl
  refine pure_ (i := 10) (N := some 6) (v := ?_) (a' := ?_) (bb 11 2047) rfl rfl (by kernel_rfl) (fun _ _ _ h => h) (Or.inl ⟨by rfl, ?_⟩) ?_ ?_
  rotate_left
  · intro w'
    go_simp
    with_reducible rfl
  rotate_left
  · simp only [Act.put, List.setIfInBounds_toArray, List.set_cons_zero, List.set_cons_succ, i64_w, i32_w]
    rfl
  refine done_ (by kernel_rfl) ?_
  clear hHeld
  go_wp2
  go_ret
  exact ⟨rfl, HB.out⟩
set_option maxRecDepth 100000 in
set_option maxHeartbeats 4000000 in
theorem part_out {b0 b mb ma mj : Nat} {w : World} {s : TS} (h : Tb b0 w b mb ma mj s) (a p c d : Int) (ho : okQ ((a, p), (c, d))) (hq : (s.fj ((a, p), (c, d))).isSome = true) : Calls Try.prog 59 #[.pointer (some ⟨b, 0, none⟩), .agg #[.int .u32 a, .int .u16 p, .int .u32 c, .int .u16 d]] w fun e w' => e = .returned (.int .i64 0) ∧ Tb b0 w' b mb ma mj { s with fj := upd s.fj ((a, p), (c, d)) none, nj := less (s.fj ((a, p), (c, d))) s.nj } ∧ Tv w w' b mb ma mj := by
  obtain ⟨v1, hv1⟩ : ∃ v_, (s.fj ((a, p), (c, d))).getD 0 = v_ := ⟨_, rfl⟩
  have HQ := Aside0.mk (And.intro hv1 hq)
  clear hv1 hq
  have H := Aside0.mk h
  have HO := Aside0.mk ho
  clear h ho
  go_enter Try.func59, Try.ntmps59
  go_upto_region 1 with (fail)
  obtain ⟨hg, hB⟩ := boxed1 w (.cells #[.int .u32 a, .int .u16 p, .int .u32 c, .int .u16 d] 107)
  generalize w.alloc (.cells #[.int .u32 a, .int .u16 p, .int .u32 c, .int .u16 d] 107) = w1 at hg hB ⊢
  have HT := Aside0.mk (H.out.below hB)
  have HB := Aside0.mk hB
  obtain ⟨g, hge⟩ : ∃ g, w.heap.size = g := ⟨_, rfl⟩
  rw [hge] at hg ⊢
  have HG := Aside0.mk hg
  have HGE := Aside0.mk hge
  clear hg hB hge
  go_upto_region 3 with (fail)
  refine start_ (n := 11) (S := fun w' => w'.heap[g]? = some (.cells #[.int .u32 a, .int .u16 p, .int .u32 c, .int .u16 d] 107 (0, 0)) ∧ Tb b0 w' b mb ma mj s) (ds := []) (bb 11 0) (by kernel_rfl) rfl rfl (⟨HG.out, HT.out.below (below_drew (Below.refl _ _))⟩) (fun hHeld => ?_)
  replace HT := Aside0.mk (HT.out.below (below_drew (Below.refl _ _)))
  replace HG := Aside0.mk (show w1.drew.heap[g]? = _ from HG.out)
  replace HB := Aside0.mk (below_drew HB.out)
  generalize w1.drew = w2 at HT HG HB hHeld ⊢
  refine pure_ (i := 0) (N := some 10) (v := ?_) (a' := ?_) (bb 11 1) rfl rfl (by kernel_rfl) (fun _ _ _ h => h) (Or.inl ⟨by rfl, ?_⟩) ?_ ?_
  rotate_left
  · intro w'
    go_simp
    with_reducible rfl
  rotate_left
  · simp only [Act.put, List.setIfInBounds_toArray, List.set_cons_zero, List.set_cons_succ, i64_w, i32_w]
    rfl
  refine pure_ (i := 1) (N := some 11) (v := ?_) (a' := ?_) (bb 11 3) rfl rfl (by kernel_rfl) (fun _ _ _ h => h) (Or.inl ⟨by rfl, ?_⟩) ?_ ?_
  rotate_left
  · intro w'
    go_simp
    with_reducible rfl
  rotate_left
  · simp only [Act.put, List.setIfInBounds_toArray, List.set_cons_zero, List.set_cons_succ, i64_w, i32_w]
    rfl
  refine pure_ (i := 2) (N := some 12) (v := ?_) (a' := ?_) (bb 11 7) rfl rfl (by kernel_rfl) (fun _ _ _ h => h) (Or.inl ⟨by rfl, ?_⟩) ?_ ?_
  rotate_left
  · intro w'
    go_simp
    with_reducible rfl
  rotate_left
  · simp only [Act.put, List.setIfInBounds_toArray, List.set_cons_zero, List.set_cons_succ, i64_w, i32_w]
    rfl
  refine take_ (i := 3) (N := some 13) (v := ?_) (a' := ?_) (bb 11 15) rfl rfl (by kernel_rfl) (fun _ _ _ h => h) (Or.inl ⟨by rfl, ?_⟩) hHeld ?_ ?_
  rotate_left
  · intro w' hSw
    obtain ⟨hg_, hT_⟩ := hSw
    have z0 := (blk_cell hg_ 0).trans rfl
    have z1 := (blk_cell hg_ 1).trans rfl
    have z2 := (blk_cell hg_ 2).trans rfl
    have z3 := (blk_cell hg_ 3).trans rfl
    obtain ⟨t0, t1, t2, t3, t4, t5, -⟩ := hT_.cells
    have lk := hT_.lookJ HO.out
    rw [HQ.out.1, HQ.out.2] at lk
    go_simp
    with_reducible rfl
  rotate_left
  · simp only [Act.put, List.setIfInBounds_toArray, List.set_cons_zero, List.set_cons_succ, i64_w, i32_w]
    rfl
  refine take_ (i := 4) (N := some 14) (v := ?_) (a' := ?_) (bb 11 31) rfl rfl (by kernel_rfl) (fun _ _ _ h => h) (Or.inl ⟨by rfl, ?_⟩) hHeld ?_ ?_
  rotate_left
  · intro w' hSw
    obtain ⟨hg_, hT_⟩ := hSw
    have z0 := (blk_cell hg_ 0).trans rfl
    have z1 := (blk_cell hg_ 1).trans rfl
    have z2 := (blk_cell hg_ 2).trans rfl
    have z3 := (blk_cell hg_ 3).trans rfl
    obtain ⟨t0, t1, t2, t3, t4, t5, -⟩ := hT_.cells
    have lk := hT_.lookJ HO.out
    rw [HQ.out.1, HQ.out.2] at lk
    go_simp
    with_reducible rfl
  rotate_left
  · simp only [Act.put, List.setIfInBounds_toArray, List.set_cons_zero, List.set_cons_succ, i64_w, i32_w]
    rfl
  refine take_ (i := 5) (N := some 15) (v := ?_) (a' := ?_) (bb 11 63) rfl rfl (by kernel_rfl) (fun _ _ _ h => h) (Or.inl ⟨by rfl, ?_⟩) hHeld ?_ ?_
  rotate_left
  · intro w' hSw
    obtain ⟨hg_, hT_⟩ := hSw
    have z0 := (blk_cell hg_ 0).trans rfl
    have z1 := (blk_cell hg_ 1).trans rfl
    have z2 := (blk_cell hg_ 2).trans rfl
    have z3 := (blk_cell hg_ 3).trans rfl
    obtain ⟨t0, t1, t2, t3, t4, t5, -⟩ := hT_.cells
    have lk := hT_.lookJ HO.out
    rw [HQ.out.1, HQ.out.2] at lk
    go_simp
    with_reducible rfl
  rotate_left
  · simp only [Act.put, List.setIfInBounds_toArray, List.set_cons_zero, List.set_cons_succ, i64_w, i32_w]
    rfl
  refine pure_ (i := 6) (N := some 9) (v := ?_) (a' := ?_) (bb 11 127) rfl rfl (by kernel_rfl) (fun _ _ _ h => h) (Or.inl ⟨by rfl, ?_⟩) ?_ ?_
  rotate_left
  · intro w'
    go_simp
    with_reducible rfl
  rotate_left
  · simp only [Act.put, List.setIfInBounds_toArray, List.set_cons_zero, List.set_cons_succ, i64_w, i32_w]
    rfl
  refine pure_ (i := 7) (N := some 16) (v := ?_) (a' := ?_) (bb 11 255) rfl rfl (by kernel_rfl) (fun _ _ _ h => h) (Or.inl ⟨by rfl, ?_⟩) ?_ ?_
  rotate_left
  · intro w'
    go_simp
    with_reducible rfl
  rotate_left
  · simp only [Act.put, List.setIfInBounds_toArray, List.set_cons_zero, List.set_cons_succ, i64_w, i32_w]
    rfl
  refine pure_ (i := 8) (N := some 17) (v := ?_) (a' := ?_) (bb 11 511) rfl rfl (by kernel_rfl) (fun _ _ _ h => h) (Or.inl ⟨by rfl, ?_⟩) ?_ ?_
  rotate_left
  · intro w'
    go_simp
    with_reducible rfl
  rotate_left
  · simp only [Act.put, List.setIfInBounds_toArray, List.set_cons_zero, List.set_cons_succ, i64_w, i32_w]
    rfl
  refine pure_ (i := 9) (N := some 5) (v := ?_) (a' := ?_) (bb 11 1023) rfl rfl (by kernel_rfl) (fun _ _ _ h => h) (Or.inl ⟨by rfl, ?_⟩) ?_ ?_
  rotate_left
  · intro w'
    go_simp
    with_reducible rfl
  rotate_left
  · simp only [Act.put, List.setIfInBounds_toArray, List.set_cons_zero, List.set_cons_succ, i64_w, i32_w]
    rfl
  refine pure_ (i := 10) (N := some 6) (v := ?_) (a' := ?_) (bb 11 2047) rfl rfl (by kernel_rfl) (fun _ _ _ h => h) (Or.inl ⟨by rfl, ?_⟩) ?_ ?_
  rotate_left
  · intro w'
    go_simp
    with_reducible rfl
  rotate_left
  · simp only [Act.put, List.setIfInBounds_toArray, List.set_cons_zero, List.set_cons_succ, i64_w, i32_w]
    rfl
  refine done_ (by kernel_rfl) ?_
  clear hHeld
  go_upto_region 6 with (fail)
  have HV_ := Aside0.mk (Tv.of_below (b := b) (mb := mb) (ma := ma) (mj := mj) HB.out)
  refine start_ (n := 6) (S := fun w' => w'.heap[g]? = some (.cells #[.int .u32 a, .int .u16 p, .int .u32 c, .int .u16 d] 107 (0, 0)) ∧ Tb b0 w' b mb ma mj s) (ds := [5]) (bb 6 0) (by kernel_rfl) rfl rfl (⟨HG.out, HT.out.below (below_drew (Below.refl _ _))⟩) (fun hHeld => ?_)
  replace HV_ := Aside0.mk (HV_.out.trans (Tv.of_below (below_drew (Below.refl _ _))))
  replace HT := Aside0.mk (HT.out.below (below_drew (Below.refl _ _)))
  replace HG := Aside0.mk (show w2.drew.heap[g]? = _ from HG.out)
  generalize w2.drew = w3 at HT HG HV_ hHeld ⊢
  refine pure_ (i := 0) (N := some 20) (v := ?_) (a' := ?_) (bb 6 1) rfl rfl (by kernel_rfl) (fun _ _ _ h => h) (Or.inl ⟨by rfl, ?_⟩) ?_ ?_
  rotate_left
  · intro w'
    go_simp
    with_reducible rfl
  rotate_left
  · simp only [Act.put, List.setIfInBounds_toArray, List.set_cons_zero, List.set_cons_succ, i64_w, i32_w]
    rfl
  refine pure_ (i := 1) (N := some 21) (v := ?_) (a' := ?_) (bb 6 3) rfl rfl (by kernel_rfl) (fun _ _ _ h => h) (Or.inl ⟨by rfl, ?_⟩) ?_ ?_
  rotate_left
  · intro w'
    go_simp
    with_reducible rfl
  rotate_left
  · simp only [Act.put, List.setIfInBounds_toArray, List.set_cons_zero, List.set_cons_succ, i64_w, i32_w]
    rfl
  refine pure_ (i := 2) (N := some 22) (v := ?_) (a' := ?_) (bb 6 7) rfl rfl (by kernel_rfl) (fun _ _ _ h => h) (Or.inl ⟨by rfl, ?_⟩) ?_ ?_
  rotate_left
  · intro w'
    go_simp
    with_reducible rfl
  rotate_left
  · simp only [Act.put, List.setIfInBounds_toArray, List.set_cons_zero, List.set_cons_succ, i64_w, i32_w]
    rfl
  refine take_ (i := 3) (N := some 23) (v := ?_) (a' := ?_) (bb 6 15) rfl rfl (by kernel_rfl) (fun _ _ _ h => h) (Or.inl ⟨by rfl, ?_⟩) hHeld ?_ ?_
  rotate_left
  · intro w' hSw
    obtain ⟨hg_, hT_⟩ := hSw
    have z0 := (blk_cell hg_ 0).trans rfl
    have z1 := (blk_cell hg_ 1).trans rfl
    have z2 := (blk_cell hg_ 2).trans rfl
    have z3 := (blk_cell hg_ 3).trans rfl
    obtain ⟨t0, t1, t2, t3, t4, t5, -⟩ := hT_.cells
    go_simp
    with_reducible rfl
  rotate_left
  · simp only [Act.put, List.setIfInBounds_toArray, List.set_cons_zero, List.set_cons_succ, i64_w, i32_w]
    rfl
  refine take_ (i := 4) (N := some 24) (v := ?_) (a' := ?_) (bb 6 31) rfl rfl (by kernel_rfl) (fun _ _ _ h => h) (Or.inl ⟨by rfl, ?_⟩) hHeld ?_ ?_
  rotate_left
  · intro w' hSw
    obtain ⟨hg_, hT_⟩ := hSw
    have z0 := (blk_cell hg_ 0).trans rfl
    have z1 := (blk_cell hg_ 1).trans rfl
    have z2 := (blk_cell hg_ 2).trans rfl
    have z3 := (blk_cell hg_ 3).trans rfl
    obtain ⟨t0, t1, t2, t3, t4, t5, -⟩ := hT_.cells
    go_simp
    with_reducible rfl
  rotate_left
  · simp only [Act.put, List.setIfInBounds_toArray, List.set_cons_zero, List.set_cons_succ, i64_w, i32_w]
    rfl
  obtain ⟨w4, hup, hT5, hV5⟩ := HT.out.delJ HO.out 0
  refine last_ (i := 5) (N := none) (bb 6 63) rfl rfl (by kernel_rfl) (by decide) (fun K hK => ?_)
  refine value_ (v := .tuple #[]) (w1 := w4) (by rfl) rfl (by first | (go_simp; done) | (go_simp; rfl)) ?_
  refine hK.out _ _ ?_
  clear hK K
  skip
  refine done_ (by kernel_rfl) ?_
  clear hHeld
  replace HG := Aside0.mk (hV5.box HT.out HG.out (by decide))
  replace HV_ := Aside0.mk (HV_.out.trans hV5)
  replace HT := Aside0.mk hT5
  clear hup hT5 hV5
  go_wp2
  go_ret
  exact ⟨rfl, HT.out, HV_.out⟩
theorem nil_pick (a : Int) (w : World) : Calls Try.prog 54 #[.pointer none, .int .u32 a] w fun e w' => e = .returned (.tuple #[.int .u16 0, .int .i64 7]) ∧ Below w.heap.size w w' := by
  have HB := Aside0.mk (Below.refl w.heap.size w)
  go_enter Try.func54, Try.ntmps54
  go_wp2
  go_ret2
  exact ⟨rfl, Below.refl _ _⟩
theorem nil_owner (a p : Int) (w : World) : Calls Try.prog 49 #[.pointer none, .agg #[.int .u32 a, .int .u16 p]] w fun e w' => e = .returned (.tuple #[.int .i64 0, .bool false]) ∧ Below w.heap.size w w' := by
  have HB := Aside0.mk (Below.refl w.heap.size w)
  go_enter Try.func49, Try.ntmps49
  go_wp2
  go_ret2
  exact ⟨rfl, (Below.refl _ _).alloc (Nat.le_refl _) _⟩
theorem nil_talks (a p c d : Int) (w : World) : Calls Try.prog 51 #[.pointer none, .agg #[.int .u32 a, .int .u16 p, .int .u32 c, .int .u16 d]] w fun e w' => e = .returned (.tuple #[.int .i64 0, .bool false]) ∧ Below w.heap.size w w' := by
  have HB := Aside0.mk (Below.refl w.heap.size w)
  go_enter Try.func51, Try.ntmps51
  go_wp2
  go_ret2
  exact ⟨rfl, (Below.refl _ _).alloc (Nat.le_refl _) _⟩
theorem nil_len  (w : World) : Calls Try.prog 57 #[.pointer none] w fun e w' => e = .returned (.tuple #[.int .i64 0, .int .i64 0]) ∧ Below w.heap.size w w' := by
  have HB := Aside0.mk (Below.refl w.heap.size w)
  go_enter Try.func57, Try.ntmps57
  go_wp2
  go_ret2
  exact ⟨rfl, Below.refl _ _⟩
theorem nil_bind (a p o : Int) (w : World) : Calls Try.prog 55 #[.pointer none, .agg #[.int .u32 a, .int .u16 p], .int .i64 o] w fun e w' => e = .returned (.int .i64 7) ∧ Below w.heap.size w w' := by
  have HB := Aside0.mk (Below.refl w.heap.size w)
  go_enter Try.func55, Try.ntmps55
  go_wp2
  go_ret
  exact ⟨rfl, (Below.refl _ _).alloc (Nat.le_refl _) _⟩
theorem nil_unbind (a p o : Int) (w : World) : Calls Try.prog 58 #[.pointer none, .agg #[.int .u32 a, .int .u16 p], .int .i64 o] w fun e w' => e = .returned (.int .i64 7) ∧ Below w.heap.size w w' := by
  have HB := Aside0.mk (Below.refl w.heap.size w)
  go_enter Try.func58, Try.ntmps58
  go_wp2
  go_ret
  exact ⟨rfl, (Below.refl _ _).alloc (Nat.le_refl _) _⟩
theorem nil_join (a p c d o : Int) (w : World) : Calls Try.prog 56 #[.pointer none, .agg #[.int .u32 a, .int .u16 p, .int .u32 c, .int .u16 d], .int .i64 o] w fun e w' => e = .returned (.int .i64 7) ∧ Below w.heap.size w w' := by
  have HB := Aside0.mk (Below.refl w.heap.size w)
  go_enter Try.func56, Try.ntmps56
  go_wp2
  go_ret
  exact ⟨rfl, (Below.refl _ _).alloc (Nat.le_refl _) _⟩
theorem nil_part (a p c d : Int) (w : World) : Calls Try.prog 59 #[.pointer none, .agg #[.int .u32 a, .int .u16 p, .int .u32 c, .int .u16 d]] w fun e w' => e = .returned (.int .i64 7) ∧ Below w.heap.size w w' := by
  have HB := Aside0.mk (Below.refl w.heap.size w)
  go_enter Try.func59, Try.ntmps59
  go_wp2
  go_ret
  exact ⟨rfl, (Below.refl _ _).alloc (Nat.le_refl _) _⟩
theorem nil_find (a p c d : Int) (w : World) : Calls Try.prog 53 #[.pointer none, .agg #[.int .u32 a, .int .u16 p, .int .u32 c, .int .u16 d]] w fun e w' => e = .returned (.tuple #[.int .i64 0, .bool false, .bool false]) ∧ Below w.heap.size w w' := by
  go_enter Try.func53, Try.ntmps53
  go_upto_region 1 with (fail)
  obtain ⟨hg, hB⟩ := boxed1 w (.cells #[.int .u32 a, .int .u16 p, .int .u32 c, .int .u16 d] 107)
  generalize w.alloc (.cells #[.int .u32 a, .int .u16 p, .int .u32 c, .int .u16 d] 107) = w1 at hg hB ⊢
  have HB := Aside0.mk hB
  generalize w.heap.size = g at hg ⊢
  have HG := Aside0.mk hg
  clear hg hB
  have z0 := (blk_cell HG.out 0).trans rfl
  have z1 := (blk_cell HG.out 1).trans rfl
  have z2 := (blk_cell HG.out 2).trans rfl
  have z3 := (blk_cell HG.out 3).trans rfl
  go_wp2_with (first | (go_at_call 51; refine (nil_talks a p c d _).mono ?_; rintro e w2 ⟨rfl, hB⟩; replace HG := Aside0.mk (blk_below HG.out hB); replace HB := Aside0.mk (below_step HB.out hB); clear hB z0 z1 z2 z3; have z0 := (blk_cell HG.out 0).trans rfl; have z1 := (blk_cell HG.out 1).trans rfl) | (go_at_call 49; refine (nil_owner a p _).mono ?_; rintro e w3 ⟨rfl, hB⟩; replace HB := Aside0.mk (below_step HB.out hB); clear hB))
  go_ret3
  exact ⟨rfl, HB.out⟩
end Go.Proofs.Ytimgfdkndlbfbaa.HPort
