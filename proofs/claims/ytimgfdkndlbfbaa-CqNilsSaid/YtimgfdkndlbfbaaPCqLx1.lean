/- The law CqNils of cq. Conditions: each theorem's own. -/
import Derived.Test.YtimgfdkndlbfbaaPCqLx0
import Derived.Test.YtimgfdkndlbfbaaPCqx2
import Derived.Test.YtimgfdkndlbfbaaPCqx3
import Derived.Test.YtimgfdkndlbfbaaHCqA
namespace Go.Proofs.Ytimgfdkndlbfbaa.PCqL
open Go.RowKit Go.Proofs.YtimgfdkndlbfbaaW.PrintWords Go.Proofs.YtimgfdkndlbfbaaW.PrintLast Go.Proofs.YtimgfdkndlbfbaaW.PrintMore Go.Proofs.Ytimgfdkndlbfbaa.PCq Go.Proofs.Ytimgfdkndlbfbaa.HRng Go.Proofs.Ytimgfdkndlbfbaa.HReg Go.Proofs.Ytimgfdkndlbfbaa.HCq
set_option linter.unusedVariables false
set_option linter.unusedSimpArgs false
theorem l1_tot (l : List S52) (x4 : Int) (h0 : 0 ≤ x4) (hlt : x4 < l.length) (hn : ∀ x3, ∃ k b, towropelaw27_much.l0 k l x3 (wrap64 (x4 + 1)) = some b) : ∀ (m : Nat) (x5 x3 : Int), 0 ≤ x5 → x5 + m = 2000 → ∃ k b, towropelaw27_much.l1 k l x3 x4 x5 = some b := by
  intro m
  induction m with
  | zero =>
    intro x5 x3 h5 hm
    obtain ⟨k, b, hk⟩ := hn x3
    by_cases h3 : x3 > 5000
    · refine ⟨1, true, ?_⟩
      simp only [towropelaw27_much.l1]
      rw [if_pos h0, if_pos hlt, if_neg (show ¬ x5 < 2000 by omega), if_pos h3]
      split <;> rfl
    · refine ⟨k + 1, b, ?_⟩
      simp only [towropelaw27_much.l1]
      rw [if_pos h0, if_pos hlt, if_neg (show ¬ x5 < 2000 by omega), if_neg h3]
      split <;> exact hk
  | succ m ih =>
    intro x5 x3 h5 hm
    by_cases hL : x5 < (((rd_T52 l x4).f2).length : Int)
    · obtain ⟨k, b, hk⟩ := ih (x5 + 1) (wrap64 (x3 + (((rd_T37 ((rd_T52 l x4).f2) x5).f10).length : Int))) (by omega) (by omega)
      refine ⟨k + 1, b, ?_⟩
      simp only [towropelaw27_much.l1]
      rw [if_pos h0, if_pos hlt, if_pos hL, if_pos (show x5 < 2000 by omega), if_pos h5, show wrap64 (x5 + 1) = x5 + 1 from w64 _ (by omega) (by omega)]
      exact hk
    · obtain ⟨k, b, hk⟩ := hn x3
      by_cases h3 : x3 > 5000
      · refine ⟨1, true, ?_⟩
        simp only [towropelaw27_much.l1]
        rw [if_pos h0, if_pos hlt, if_neg hL, if_pos h3]
      · refine ⟨k + 1, b, ?_⟩
        simp only [towropelaw27_much.l1]
        rw [if_pos h0, if_pos hlt, if_neg hL, if_neg h3]
        exact hk
theorem l0_tot (l : List S52) : ∀ (m : Nat) (x4 x3 : Int), 0 ≤ x4 → x4 + m = 100 → ∃ k b, towropelaw27_much.l0 k l x3 x4 = some b := by
  intro m
  induction m with
  | zero =>
    intro x4 x3 h4 hm
    refine ⟨2, decide ((l.length : Int) > 100), ?_⟩
    simp only [towropelaw27_much.l0]
    rw [show decide (x4 < 100) = false from decide_eq_false (by omega)]
    simp [towropelaw27_much.j1]
  | succ m ih =>
    intro x4 x3 h4 hm
    by_cases hlt : x4 < (l.length : Int)
    · obtain ⟨k, b, hk⟩ := l1_tot l x4 h4 hlt (fun x3 => by rw [w64 (x4 + 1) (by omega) (by omega)]; exact ih (x4 + 1) x3 (by omega) (by omega)) 2000 0 (wrap64 ((wrap64 (x3 + (((rd_T52 l x4).f2).length : Int))) + (((rd_T52 l x4).f3.f4).length : Int))) (by omega) (by omega)
      refine ⟨k + 2, b, ?_⟩
      simp only [towropelaw27_much.l0]
      rw [if_pos hlt, show decide (x4 < 100) = true from decide_eq_true (by omega)]
      simp only [towropelaw27_much.j1, if_true]
      rw [if_pos h4, if_pos hlt]
      exact hk
    · refine ⟨2, decide ((l.length : Int) > 100), ?_⟩
      simp only [towropelaw27_much.l0]
      rw [if_neg hlt]
      simp [towropelaw27_much.j1]
theorem much_tot (l : List S52) : ∃ k b, towropelaw27_much.f k l = some b := l0_tot l 100 0 0 (by omega) (by omega)
theorem C_one {α : Type} {d : Kd α} {w : World} {g : Nat} {e : TypeId} {x : α} {cs : List Value} (hg : w.heap[g]? = some (.cells cs.toArray e (0, 0))) (hK : d.K w x cs) : d.C w (some ⟨g, 0, none⟩) 1 [x] := by
  refine ⟨rfl, by decide, fun _ => ⟨⟨g, 0, none⟩, rfl, fun j p hj => ?_⟩⟩
  have hj0 : j = 0 := by have := (List.getElem?_eq_some_iff.1 hj).1; simp at this; omega
  subst hj0
  have hj2 : x = p := by simpa using hj
  subst hj2
  refine ⟨cs, d.K_len hK, hK, fun i u hu => ?_⟩
  rw [Nat.zero_mul, Nat.zero_add, HRng.add_plain_, blk_cell hg]
  simpa using hu
theorem wz0 : wrap64 0 = 0 := w64 0 (by omega) (by omega)
theorem same_zero (w : World) : Calls Try.prog 22 #[.agg #[.int .u8 0, .int .u8 0, .int .i64 0, .int .u32 0, .int .u16 0, .int .i64 0, .int .i64 0, .int .i64 0, .int .u64 0, .int .u64 0, .slice none 0 0], .agg #[.int .u8 0, .int .u8 0, .int .i64 0, .int .u32 0, .int .u16 0, .int .i64 0, .int .i64 0, .int .i64 0, .int .u64 0, .int .u64 0, .slice none 0 0]] w fun e w' => e = .returned (.bool true) ∧ Below w.heap.size w w' :=
  towroperef26_Same.calls 0 0 0 0 0 0 0 0 0 0 none 0 [] 0 0 0 0 0 0 0 0 0 0 none 0 [] true w (Kd.C_nil _ _) (Nat.le_refl _) (Kd.C_nil _ _) (Nat.le_refl _) (by simp [towroperef26_Same.f])
theorem nil17' (x : S52) (A : Option Addr) (c L : Nat) (w : World) : Calls Try.prog 17 #[.pointer none, .agg #[.int .u64 x.f3.f0, .int .i64 x.f3.f1, .int .u8 x.f3.f2, .int .i64 x.f3.f3, .slice A L c]] w fun e w' => e = .returned (.tuple #[]) ∧ Below w.heap.size w w' := by
  have := nil17 ⟨x.f3.f0, x.f3.f1, x.f3.f2, x.f3.f3, List.replicate L 0⟩ A c w
  simpa only [List.length_replicate] using this
set_option maxRecDepth 100000 in
set_option maxHeartbeats 8000000 in
theorem nils_calls (x : S52) (A2 : Option Addr) (c2 : Nat) (A7 : Option Addr) (c7 : Nat) (w : World) (hK : k52.K w x [.int .i64 x.f0, .int .i64 x.f1, .slice A2 x.f2.length c2, .int .u64 x.f3.f0, .int .i64 x.f3.f1, .int .u8 x.f3.f2, .int .i64 x.f3.f3, .slice A7 x.f3.f4.length c7]) : Calls Try.prog 5 #[.agg #[.int .i64 x.f0, .int .i64 x.f1, .slice A2 x.f2.length c2, .int .u64 x.f3.f0, .int .i64 x.f3.f1, .int .u8 x.f3.f2, .int .i64 x.f3.f3, .slice A7 x.f3.f4.length c7]] w fun e w' => e = .returned (.bool true) ∧ Below w.heap.size w w' := by
  obtain ⟨k, b, hb⟩ := much_tot [x]
  have HMU := Aside0.mk (fun (W : World) (hW : Below w.heap.size w W) (g : Nat) (hg : W.heap[g]? = some (.cells #[.int .i64 x.f0, .int .i64 x.f1, .slice A2 x.f2.length c2, .int .u64 x.f3.f0, .int .i64 x.f3.f1, .int .u8 x.f3.f2, .int .i64 x.f3.f3, .slice A7 x.f3.f4.length c7] 52 (0, 0))) => (show Calls Try.prog 19 #[.slice (some ⟨g, 0, none⟩) 1 1] W (fun e w' => e = .returned (.bool b) ∧ Drawn0 W w') from towropelaw27_much.calls k (some ⟨g, 0, none⟩) 1 [x] b W (C_one (cs := [.int .i64 x.f0, .int .i64 x.f1, .slice A2 x.f2.length c2, .int .u64 x.f3.f0, .int .i64 x.f3.f1, .int .u8 x.f3.f2, .int .i64 x.f3.f3, .slice A7 x.f3.f4.length c7]) hg (k52.K_below hW hK)) (Nat.le_refl _) hb))
  have HA := Aside0.mk (below_alloc (Below.refl w.heap.size w) (.cells #[.int .i64 x.f0, .int .i64 x.f1, .slice A2 x.f2.length c2, .int .u64 x.f3.f0, .int .i64 x.f3.f1, .int .u8 x.f3.f2, .int .i64 x.f3.f3, .slice A7 x.f3.f4.length c7] 52))
  have HG := Aside0.mk (blk_new w (.cells #[.int .i64 x.f0, .int .i64 x.f1, .slice A2 x.f2.length c2, .int .u64 x.f3.f0, .int .i64 x.f3.f1, .int .u8 x.f3.f2, .int .i64 x.f3.f3, .slice A7 x.f3.f4.length c7] 52))
  generalize x.f2.length = L2 at HMU HA HG ⊢
  generalize x.f3.f4.length = L7 at HMU HA HG ⊢
  clear hK hb
  go_enter Try.func5, Try.ntmps5
  go_upto_region 1 with (fail)
  obtain ⟨bx, hbx⟩ : ∃ bx, bx = w.heap.size := ⟨_, rfl⟩
  rw [← hbx] at HG ⊢
  clear hbx
  generalize w.alloc (.cells #[.int .i64 x.f0, .int .i64 x.f1, .slice A2 L2 c2, .int .u64 x.f3.f0, .int .i64 x.f3.f1, .int .u8 x.f3.f2, .int .i64 x.f3.f3, .slice A7 L7 c7] 52) = w1 at HA HG ⊢
  have y0 := (blk_cell HG.out 0).trans rfl
  have y1 := (blk_cell HG.out 1).trans rfl
  have y2 := (blk_cell HG.out 2).trans rfl
  have y3 := (blk_cell HG.out 3).trans rfl
  have y4 := (blk_cell HG.out 4).trans rfl
  have y5 := (blk_cell HG.out 5).trans rfl
  have y6 := (blk_cell HG.out 6).trans rfl
  have y7 := (blk_cell HG.out 7).trans rfl
  have HCM := Aside0.mk (HMU.out (w1.alloc (.cells #[.int .i64 x.f0, .int .i64 x.f1, .slice A2 L2 c2, .int .u64 x.f3.f0, .int .i64 x.f3.f1, .int .u8 x.f3.f2, .int .i64 x.f3.f3, .slice A7 L7 c7] 52)) (below_alloc HA.out _) w1.heap.size (blk_new w1 _))
  have HA2 := Aside0.mk (below_alloc HA.out (.cells #[.int .i64 x.f0, .int .i64 x.f1, .slice A2 L2 c2, .int .u64 x.f3.f0, .int .i64 x.f3.f1, .int .u8 x.f3.f2, .int .i64 x.f3.f3, .slice A7 L7 c7] 52))
  have HG2 := Aside0.mk (blk_below HG.out (below_alloc (Below.refl w1.heap.size w1) (.cells #[.int .i64 x.f0, .int .i64 x.f1, .slice A2 L2 c2, .int .u64 x.f3.f0, .int .i64 x.f3.f1, .int .u8 x.f3.f2, .int .i64 x.f3.f3, .slice A7 L7 c7] 52)))
  cases b
  · go_upto_region 4 with (go_at_call 19; (with_reducible refine HCM.out.mono ?_); rintro e2 w2 ⟨rfl, hD⟩; have HA3 := Aside0.mk (below_step HA2.out hD.below); have HG3 := Aside0.mk (blk_below HG2.out hD.below); clear hD y0 y1 y2 y3 y4 y5 y6 y7; dsimp only)
    clear HCM HA2 HG2 HA HG HMU
    have y0 := (blk_cell HG3.out 0).trans rfl
    have y1 := (blk_cell HG3.out 1).trans rfl
    have y2 := (blk_cell HG3.out 2).trans rfl
    have y3 := (blk_cell HG3.out 3).trans rfl
    have y4 := (blk_cell HG3.out 4).trans rfl
    have y5 := (blk_cell HG3.out 5).trans rfl
    have y6 := (blk_cell HG3.out 6).trans rfl
    have y7 := (blk_cell HG3.out 7).trans rfl
    go_upto_region 5 with (go_at_call 17; (with_reducible refine (nil17' x A7 c7 L7 _).mono ?_); rintro e3 w3 ⟨rfl, hB⟩; replace HA3 := Aside0.mk (below_step HA3.out hB); replace HG3 := Aside0.mk (blk_below HG3.out hB); clear hB y0 y1 y2 y3 y4 y5 y6 y7; dsimp only)
    go_upto_region 6 with (go_at_call 16; (with_reducible refine (nil16 _).mono ?_); rintro e5 w5 ⟨rfl, hB⟩; replace HA3 := Aside0.mk (below_step HA3.out hB); replace HG3 := Aside0.mk (blk_below HG3.out hB); clear hB; dsimp only)
    have HA6 := Aside0.mk (below_alloc HA3.out (.cells #[.int .u8 0, .int .u8 0, .int .i64 0, .int .u32 0, .int .u16 0, .int .i64 0, .int .i64 0, .int .i64 0, .int .u64 0, .int .u64 0, .slice none 0 0] 37))
    have HG := Aside0.mk (blk_below HG3.out (below_alloc (Below.refl w5.heap.size w5) (.cells #[.int .u8 0, .int .u8 0, .int .i64 0, .int .u32 0, .int .u16 0, .int .i64 0, .int .i64 0, .int .i64 0, .int .u64 0, .int .u64 0, .slice none 0 0] 37)))
    have HG4 := Aside0.mk (blk_new w5 (.cells #[.int .u8 0, .int .u8 0, .int .i64 0, .int .u32 0, .int .u16 0, .int .i64 0, .int .i64 0, .int .i64 0, .int .u64 0, .int .u64 0, .slice none 0 0] 37))
    obtain ⟨b4, hb4⟩ : ∃ b4, b4 = w5.heap.size := ⟨_, rfl⟩
    rw [← hb4] at HG4 ⊢
    clear hb4 HA3 HG3
    generalize w5.alloc (.cells #[.int .u8 0, .int .u8 0, .int .i64 0, .int .u32 0, .int .u16 0, .int .i64 0, .int .i64 0, .int .i64 0, .int .u64 0, .int .u64 0, .slice none 0 0] 37) = w6 at HA6 HG HG4 ⊢
    go_upto_region 8 with (first | (go_at_call 26; (with_reducible refine (nil26 _).mono ?_); rintro e7 w7 ⟨rfl, rfl⟩; dsimp only) | (go_at_call 27; (with_reducible refine (nil27 _).mono ?_); rintro e8 w8 ⟨rfl, rfl⟩; dsimp only))
    have HB := Aside0.mk HA6.out
    refine start_ (n := 38) (S := fun w' => w'.heap[bx]? = some (.cells #[.int .i64 x.f0, .int .i64 x.f1, .slice A2 L2 c2, .int .u64 x.f3.f0, .int .i64 x.f3.f1, .int .u8 x.f3.f2, .int .i64 x.f3.f3, .slice A7 L7 c7] 52 (0, 0)) ∧ w'.heap[b4]? = some (.cells #[.int .u8 0, .int .u8 0, .int .i64 0, .int .u32 0, .int .u16 0, .int .i64 0, .int .i64 0, .int .i64 0, .int .u64 0, .int .u64 0, .slice none 0 0] 37 (0, 0))) (ds := []) (bb 38 0) (by kernel_rfl) rfl rfl (⟨HG.out, HG4.out⟩) (fun hHeld => ?_)
    have HB := Aside0.mk (below_drew HB.out)
    clear HA6 HG HG4
    generalize w6.drew = w10 at HB hHeld ⊢
    refine take_ (i := 0) (N := some 39) (v := ?_) (a' := ?_) (bb 38 1) rfl rfl (by kernel_rfl) (fun _ _ _ h => h) (Or.inl ⟨by rfl, ?_⟩) hHeld ?_ ?_
    rotate_left
    · intro w' hSw
      have y0 := (blk_cell hSw.1 0).trans rfl
      have y1 := (blk_cell hSw.1 1).trans rfl
      have y2 := (blk_cell hSw.1 2).trans rfl
      have y3 := (blk_cell hSw.1 3).trans rfl
      have y4 := (blk_cell hSw.1 4).trans rfl
      have y5 := (blk_cell hSw.1 5).trans rfl
      have y6 := (blk_cell hSw.1 6).trans rfl
      have y7 := (blk_cell hSw.1 7).trans rfl
      have z0 := (blk_cell hSw.2 0).trans rfl
      have z1 := (blk_cell hSw.2 1).trans rfl
      have z2 := (blk_cell hSw.2 2).trans rfl
      have z3 := (blk_cell hSw.2 3).trans rfl
      have z4 := (blk_cell hSw.2 4).trans rfl
      have z5 := (blk_cell hSw.2 5).trans rfl
      have z6 := (blk_cell hSw.2 6).trans rfl
      have z7 := (blk_cell hSw.2 7).trans rfl
      have z8 := (blk_cell hSw.2 8).trans rfl
      have z9 := (blk_cell hSw.2 9).trans rfl
      have z10 := (blk_cell hSw.2 10).trans rfl
      go_simp
      with_reducible rfl
    rotate_left
    · simp only [Act.put, List.setIfInBounds_toArray, List.set_cons_zero, List.set_cons_succ, i64_w, i32_w]
      rfl
    refine pure_ (i := 1) (N := some 40) (v := ?_) (a' := ?_) (bb 38 3) rfl rfl (by kernel_rfl) (fun _ _ _ h => h) (Or.inl ⟨by rfl, ?_⟩) ?_ ?_
    rotate_left
    · intro w'
      go_simp
      with_reducible rfl
    rotate_left
    · simp only [Act.put, List.setIfInBounds_toArray, List.set_cons_zero, List.set_cons_succ, i64_w, i32_w]
      rfl
    refine one_ (i := 2) (N := some 41) (bb 38 7) rfl rfl (by kernel_rfl) (by decide) (fun K hK => ?_)
    refine goes_ Try.func22 (by kernel_rfl) rfl #[.agg #[.int .u8 0, .int .u8 0, .int .i64 0, .int .u32 0, .int .u16 0, .int .i64 0, .int .i64 0, .int .i64 0, .int .u64 0, .int .u64 0, .slice none 0 0], .agg #[.int .u8 0, .int .u8 0, .int .i64 0, .int .u32 0, .int .u16 0, .int .i64 0, .int .i64 0, .int .i64 0, .int .u64 0, .int .u64 0, .slice none 0 0]] (by rfl) rfl rfl (by (try simp only [List.map_toArray, List.map_cons, List.map_nil]); first | done | rfl | (go_simp; done) | (go_simp; omega)) ?_
    refine Calls.mono (same_zero _) ?_
    rintro e w' ⟨rfl, hBr⟩
    refine ⟨_, rfl, ?_⟩
    have HBr := Aside0.mk hBr
    clear hBr
    replace HB := Aside0.mk (below_then HB.out HB.out.size HBr.out)
    refine hK.out _ _ (⟨blk_below hHeld.1 HBr.out, blk_below hHeld.2 HBr.out⟩) (fun hHeld => ?_)
    clear hK K
    refine norm_ (a' := ?_) ?_ ?_
    rotate_left
    · show Act.put _ (some 41) _ = _
      simp only [Act.put, List.setIfInBounds_toArray, List.set_cons_zero, List.set_cons_succ, i64_w, i32_w]
      rfl
    refine pure_ (i := 3) (N := some 42) (v := ?_) (a' := ?_) (bb 38 15) rfl rfl (by kernel_rfl) (fun _ _ _ h => h) (Or.inl ⟨by rfl, ?_⟩) ?_ ?_
    rotate_left
    · intro w'
      go_simp
      with_reducible rfl
    rotate_left
    · simp only [Act.put, List.setIfInBounds_toArray, List.set_cons_zero, List.set_cons_succ, i64_w, i32_w]
      rfl
    refine pure_ (i := 4) (N := some 43) (v := ?_) (a' := ?_) (bb 38 31) rfl rfl (by kernel_rfl) (fun _ _ _ h => h) (Or.inl ⟨by rfl, ?_⟩) ?_ ?_
    rotate_left
    · intro w'
      go_simp
      with_reducible rfl
    rotate_left
    · simp only [Act.put, List.setIfInBounds_toArray, List.set_cons_zero, List.set_cons_succ, i64_w, i32_w]
      rfl
    refine pure_ (i := 5) (N := some 44) (v := ?_) (a' := ?_) (bb 38 63) rfl rfl (by kernel_rfl) (fun _ _ _ h => h) (Or.inl ⟨by rfl, ?_⟩) ?_ ?_
    rotate_left
    · intro w'
      go_simp
      with_reducible rfl
    rotate_left
    · simp only [Act.put, List.setIfInBounds_toArray, List.set_cons_zero, List.set_cons_succ, i64_w, i32_w]
      rfl
    refine pure_ (i := 6) (N := some 45) (v := ?_) (a' := ?_) (bb 38 127) rfl rfl (by kernel_rfl) (fun _ _ _ h => h) (Or.inl ⟨by rfl, ?_⟩) ?_ ?_
    rotate_left
    · intro w'
      go_simp
      with_reducible rfl
    rotate_left
    · simp only [Act.put, List.setIfInBounds_toArray, List.set_cons_zero, List.set_cons_succ, i64_w, i32_w]
      rfl
    refine pure_ (i := 7) (N := some 46) (v := ?_) (a' := ?_) (bb 38 255) rfl rfl (by kernel_rfl) (fun _ _ _ h => h) (Or.inl ⟨by rfl, ?_⟩) ?_ ?_
    rotate_left
    · intro w'
      go_simp
      with_reducible rfl
    rotate_left
    · simp only [Act.put, List.setIfInBounds_toArray, List.set_cons_zero, List.set_cons_succ, i64_w, i32_w]
      rfl
    refine pure_ (i := 8) (N := some 47) (v := ?_) (a' := ?_) (bb 38 511) rfl rfl (by kernel_rfl) (fun _ _ _ h => h) (Or.inl ⟨by rfl, ?_⟩) ?_ ?_
    rotate_left
    · intro w'
      go_simp
      with_reducible rfl
    rotate_left
    · simp only [Act.put, List.setIfInBounds_toArray, List.set_cons_zero, List.set_cons_succ, i64_w, i32_w]
      rfl
    refine pure_ (i := 9) (N := some 48) (v := ?_) (a' := ?_) (bb 38 1023) rfl rfl (by kernel_rfl) (fun _ _ _ h => h) (Or.inl ⟨by rfl, ?_⟩) ?_ ?_
    rotate_left
    · intro w'
      go_simp
      with_reducible rfl
    rotate_left
    · simp only [Act.put, List.setIfInBounds_toArray, List.set_cons_zero, List.set_cons_succ, i64_w, i32_w]
      rfl
    refine take_ (i := 10) (N := some 49) (v := ?_) (a' := ?_) (bb 38 2047) rfl rfl (by kernel_rfl) (fun _ _ _ h => h) (Or.inl ⟨by rfl, ?_⟩) hHeld ?_ ?_
    rotate_left
    · intro w' hSw
      have y0 := (blk_cell hSw.1 0).trans rfl
      have y1 := (blk_cell hSw.1 1).trans rfl
      have y2 := (blk_cell hSw.1 2).trans rfl
      have y3 := (blk_cell hSw.1 3).trans rfl
      have y4 := (blk_cell hSw.1 4).trans rfl
      have y5 := (blk_cell hSw.1 5).trans rfl
      have y6 := (blk_cell hSw.1 6).trans rfl
      have y7 := (blk_cell hSw.1 7).trans rfl
      have z0 := (blk_cell hSw.2 0).trans rfl
      have z1 := (blk_cell hSw.2 1).trans rfl
      have z2 := (blk_cell hSw.2 2).trans rfl
      have z3 := (blk_cell hSw.2 3).trans rfl
      have z4 := (blk_cell hSw.2 4).trans rfl
      have z5 := (blk_cell hSw.2 5).trans rfl
      have z6 := (blk_cell hSw.2 6).trans rfl
      have z7 := (blk_cell hSw.2 7).trans rfl
      have z8 := (blk_cell hSw.2 8).trans rfl
      have z9 := (blk_cell hSw.2 9).trans rfl
      have z10 := (blk_cell hSw.2 10).trans rfl
      go_simp
      with_reducible rfl
    rotate_left
    · simp only [Act.put, List.setIfInBounds_toArray, List.set_cons_zero, List.set_cons_succ, i64_w, i32_w]
      rfl
    refine pure_ (i := 12) (N := some 51) (v := ?_) (a' := ?_) (bb 38 6143) rfl rfl (by kernel_rfl) (fun _ _ _ h => h) (Or.inl ⟨by rfl, ?_⟩) ?_ ?_
    rotate_left
    · intro w'
      go_simp
      with_reducible rfl
    rotate_left
    · simp only [Act.put, List.setIfInBounds_toArray, List.set_cons_zero, List.set_cons_succ, i64_w, i32_w]
      rfl
    refine pure_ (i := 13) (N := some 52) (v := ?_) (a' := ?_) (bb 38 14335) rfl rfl (by kernel_rfl) (fun _ _ _ h => h) (Or.inl ⟨by rfl, ?_⟩) ?_ ?_
    rotate_left
    · intro w'
      go_simp
      with_reducible rfl
    rotate_left
    · simp only [Act.put, List.setIfInBounds_toArray, List.set_cons_zero, List.set_cons_succ, i64_w, i32_w]
      rfl
    refine take_ (i := 14) (N := some 53) (v := ?_) (a' := ?_) (bb 38 30719) rfl rfl (by kernel_rfl) (fun _ _ _ h => h) (Or.inl ⟨by rfl, ?_⟩) hHeld ?_ ?_
    rotate_left
    · intro w' hSw
      have y0 := (blk_cell hSw.1 0).trans rfl
      have y1 := (blk_cell hSw.1 1).trans rfl
      have y2 := (blk_cell hSw.1 2).trans rfl
      have y3 := (blk_cell hSw.1 3).trans rfl
      have y4 := (blk_cell hSw.1 4).trans rfl
      have y5 := (blk_cell hSw.1 5).trans rfl
      have y6 := (blk_cell hSw.1 6).trans rfl
      have y7 := (blk_cell hSw.1 7).trans rfl
      have z0 := (blk_cell hSw.2 0).trans rfl
      have z1 := (blk_cell hSw.2 1).trans rfl
      have z2 := (blk_cell hSw.2 2).trans rfl
      have z3 := (blk_cell hSw.2 3).trans rfl
      have z4 := (blk_cell hSw.2 4).trans rfl
      have z5 := (blk_cell hSw.2 5).trans rfl
      have z6 := (blk_cell hSw.2 6).trans rfl
      have z7 := (blk_cell hSw.2 7).trans rfl
      have z8 := (blk_cell hSw.2 8).trans rfl
      have z9 := (blk_cell hSw.2 9).trans rfl
      have z10 := (blk_cell hSw.2 10).trans rfl
      go_simp
      with_reducible rfl
    rotate_left
    · simp only [Act.put, List.setIfInBounds_toArray, List.set_cons_zero, List.set_cons_succ, i64_w, i32_w]
      rfl
    refine pure_ (i := 18) (N := some 57) (v := ?_) (a' := ?_) (bb 38 292863) rfl rfl (by kernel_rfl) (fun _ _ _ h => h) (Or.inl ⟨by rfl, ?_⟩) ?_ ?_
    rotate_left
    · intro w'
      go_simp
      with_reducible rfl
    rotate_left
    · simp only [Act.put, List.setIfInBounds_toArray, List.set_cons_zero, List.set_cons_succ, i64_w, i32_w]
      rfl
    refine pure_ (i := 20) (N := some 59) (v := ?_) (a' := ?_) (bb 38 1341439) rfl rfl (by kernel_rfl) (fun _ _ _ h => h) (Or.inl ⟨by rfl, ?_⟩) ?_ ?_
    rotate_left
    · intro w'
      go_simp
      with_reducible rfl
    rotate_left
    · simp only [Act.put, List.setIfInBounds_toArray, List.set_cons_zero, List.set_cons_succ, i64_w, i32_w]
      rfl
    refine pure_ (i := 22) (N := some 61) (v := ?_) (a' := ?_) (bb 38 5535743) rfl rfl (by kernel_rfl) (fun _ _ _ h => h) (Or.inl ⟨by rfl, ?_⟩) ?_ ?_
    rotate_left
    · intro w'
      go_simp
      with_reducible rfl
    rotate_left
    · simp only [Act.put, List.setIfInBounds_toArray, List.set_cons_zero, List.set_cons_succ, i64_w, i32_w]
      rfl
    refine pure_ (i := 24) (N := some 63) (v := ?_) (a' := ?_) (bb 38 22312959) rfl rfl (by kernel_rfl) (fun _ _ _ h => h) (Or.inl ⟨by rfl, ?_⟩) ?_ ?_
    rotate_left
    · intro w'
      go_simp
      with_reducible rfl
    rotate_left
    · simp only [Act.put, List.setIfInBounds_toArray, List.set_cons_zero, List.set_cons_succ, i64_w, i32_w]
      rfl
    refine pure_ (i := 26) (N := some 65) (v := ?_) (a' := ?_) (bb 38 89421823) rfl rfl (by kernel_rfl) (fun _ _ _ h => h) (Or.inl ⟨by rfl, ?_⟩) ?_ ?_
    rotate_left
    · intro w'
      go_simp
      with_reducible rfl
    rotate_left
    · simp only [Act.put, List.setIfInBounds_toArray, List.set_cons_zero, List.set_cons_succ, i64_w, i32_w]
      rfl
    refine pure_ (i := 28) (N := some 67) (v := ?_) (a' := ?_) (bb 38 357857279) rfl rfl (by kernel_rfl) (fun _ _ _ h => h) (Or.inl ⟨by rfl, ?_⟩) ?_ ?_
    rotate_left
    · intro w'
      go_simp
      with_reducible rfl
    rotate_left
    · simp only [Act.put, List.setIfInBounds_toArray, List.set_cons_zero, List.set_cons_succ, i64_w, i32_w]
      rfl
    refine pure_ (i := 30) (N := some 69) (v := ?_) (a' := ?_) (bb 38 1431599103) rfl rfl (by kernel_rfl) (fun _ _ _ h => h) (Or.inl ⟨by rfl, ?_⟩) ?_ ?_
    rotate_left
    · intro w'
      go_simp
      with_reducible rfl
    rotate_left
    · simp only [Act.put, List.setIfInBounds_toArray, List.set_cons_zero, List.set_cons_succ, i64_w, i32_w]
      rfl
    refine one_ (i := 11) (N := some 50) (bb 38 1431601151) rfl rfl (by kernel_rfl) (by decide) (fun K hK => ?_)
    refine goes_ Try.func15 (by kernel_rfl) rfl #[.pointer none, .slice A2 L2 c2] (by rfl) rfl rfl (by (try simp only [List.map_toArray, List.map_cons, List.map_nil]); first | done | rfl | (go_simp; done) | (go_simp; omega)) ?_
    refine Calls.mono (nil15 _ _) ?_
    rintro e w' ⟨rfl, rfl⟩
    refine ⟨_, rfl, ?_⟩
    refine hK.out _ _ (hHeld) (fun hHeld => ?_)
    clear hK K
    refine norm_ (a' := ?_) ?_ ?_
    rotate_left
    · show Act.put _ (some 50) _ = _
      simp only [Act.put, List.setIfInBounds_toArray, List.set_cons_zero, List.set_cons_succ, i64_w, i32_w]
      rfl
    refine one_ (i := 15) (N := some 54) (bb 38 1431633919) rfl rfl (by kernel_rfl) (by decide) (fun K hK => ?_)
    refine goes_ Try.func18 (by kernel_rfl) rfl #[.pointer none, .int .i64 x.f1] (by rfl) rfl rfl (by (try simp only [List.map_toArray, List.map_cons, List.map_nil]); first | done | rfl | (go_simp; done) | (go_simp; omega)) ?_
    refine Calls.mono (nil18 _ _) ?_
    rintro e w' ⟨rfl, rfl⟩
    refine ⟨_, rfl, ?_⟩
    refine hK.out _ _ (hHeld) (fun hHeld => ?_)
    clear hK K
    refine norm_ (a' := ?_) ?_ ?_
    rotate_left
    · show Act.put _ (some 54) _ = _
      simp only [Act.put, List.setIfInBounds_toArray, List.set_cons_zero, List.set_cons_succ, i64_w, i32_w]
      rfl
    refine pure_ (i := 16) (N := some 55) (v := ?_) (a' := ?_) (bb 38 1431699455) rfl rfl (by kernel_rfl) (fun _ _ _ h => h) (Or.inl ⟨by rfl, ?_⟩) ?_ ?_
    rotate_left
    · intro w'
      go_simp
      with_reducible rfl
    rotate_left
    · simp only [Act.put, List.setIfInBounds_toArray, List.set_cons_zero, List.set_cons_succ, i64_w, i32_w]
      rfl
    refine pure_ (i := 17) (N := some 56) (v := ?_) (a' := ?_) (bb 38 1431830527) rfl rfl (by kernel_rfl) (fun _ _ _ h => h) (Or.inl ⟨by rfl, ?_⟩) ?_ ?_
    rotate_left
    · intro w'
      go_simp
      simp only [i64_w, Int.add_zero, wz0]
      with_reducible rfl
    rotate_left
    · simp only [Act.put, List.setIfInBounds_toArray, List.set_cons_zero, List.set_cons_succ, i64_w, i32_w]
      rfl
    refine pure_ (i := 19) (N := some 58) (v := ?_) (a' := ?_) (bb 38 1432354815) rfl rfl (by kernel_rfl) (fun _ _ _ h => h) (Or.inl ⟨by rfl, ?_⟩) ?_ ?_
    rotate_left
    · intro w'
      go_simp
      simp only [i64_w, Int.add_zero, wz0]
      with_reducible rfl
    rotate_left
    · simp only [Act.put, List.setIfInBounds_toArray, List.set_cons_zero, List.set_cons_succ, i64_w, i32_w]
      rfl
    refine pure_ (i := 21) (N := some 60) (v := ?_) (a' := ?_) (bb 38 1434451967) rfl rfl (by kernel_rfl) (fun _ _ _ h => h) (Or.inl ⟨by rfl, ?_⟩) ?_ ?_
    rotate_left
    · intro w'
      go_simp
      simp only [i64_w, Int.add_zero, wz0]
      with_reducible rfl
    rotate_left
    · simp only [Act.put, List.setIfInBounds_toArray, List.set_cons_zero, List.set_cons_succ, i64_w, i32_w]
      rfl
    refine pure_ (i := 23) (N := some 62) (v := ?_) (a' := ?_) (bb 38 1442840575) rfl rfl (by kernel_rfl) (fun _ _ _ h => h) (Or.inl ⟨by rfl, ?_⟩) ?_ ?_
    rotate_left
    · intro w'
      go_simp
      simp only [i64_w, Int.add_zero, wz0]
      with_reducible rfl
    rotate_left
    · simp only [Act.put, List.setIfInBounds_toArray, List.set_cons_zero, List.set_cons_succ, i64_w, i32_w]
      rfl
    refine pure_ (i := 25) (N := some 64) (v := ?_) (a' := ?_) (bb 38 1476395007) rfl rfl (by kernel_rfl) (fun _ _ _ h => h) (Or.inl ⟨by rfl, ?_⟩) ?_ ?_
    rotate_left
    · intro w'
      go_simp
      simp only [i64_w, Int.add_zero, wz0]
      with_reducible rfl
    rotate_left
    · simp only [Act.put, List.setIfInBounds_toArray, List.set_cons_zero, List.set_cons_succ, i64_w, i32_w]
      rfl
    refine pure_ (i := 27) (N := some 66) (v := ?_) (a' := ?_) (bb 38 1610612735) rfl rfl (by kernel_rfl) (fun _ _ _ h => h) (Or.inl ⟨by rfl, ?_⟩) ?_ ?_
    rotate_left
    · intro w'
      go_simp
      simp only [i64_w, Int.add_zero, wz0]
      with_reducible rfl
    rotate_left
    · simp only [Act.put, List.setIfInBounds_toArray, List.set_cons_zero, List.set_cons_succ, i64_w, i32_w]
      rfl
    refine pure_ (i := 29) (N := some 68) (v := ?_) (a' := ?_) (bb 38 2147483647) rfl rfl (by kernel_rfl) (fun _ _ _ h => h) (Or.inl ⟨by rfl, ?_⟩) ?_ ?_
    rotate_left
    · intro w'
      go_simp
      simp only [i64_w, Int.add_zero, wz0]
      with_reducible rfl
    rotate_left
    · simp only [Act.put, List.setIfInBounds_toArray, List.set_cons_zero, List.set_cons_succ, i64_w, i32_w]
      rfl
    refine pure_ (i := 31) (N := some 70) (v := ?_) (a' := ?_) (bb 38 4294967295) rfl rfl (by kernel_rfl) (fun _ _ _ h => h) (Or.inl ⟨by rfl, ?_⟩) ?_ ?_
    rotate_left
    · intro w'
      go_simp
      simp only [i64_w, Int.add_zero, wz0]
      with_reducible rfl
    rotate_left
    · simp only [Act.put, List.setIfInBounds_toArray, List.set_cons_zero, List.set_cons_succ, i64_w, i32_w]
      rfl
    refine pure_ (i := 32) (N := some 71) (v := ?_) (a' := ?_) (bb 38 8589934591) rfl rfl (by kernel_rfl) (fun _ _ _ h => h) (Or.inl ⟨by rfl, ?_⟩) ?_ ?_
    rotate_left
    · intro w'
      go_simp
      try simp only [beq_self_eq_true]
      with_reducible rfl
    rotate_left
    · simp only [Act.put, List.setIfInBounds_toArray, List.set_cons_zero, List.set_cons_succ, i64_w, i32_w]
      rfl
    refine pure_ (i := 33) (N := some 72) (v := ?_) (a' := ?_) (bb 38 17179869183) rfl rfl (by kernel_rfl) (fun _ _ _ h => h) (Or.inl ⟨by rfl, ?_⟩) ?_ ?_
    rotate_left
    · intro w'
      go_simp
      with_reducible rfl
    rotate_left
    · simp only [Act.put, List.setIfInBounds_toArray, List.set_cons_zero, List.set_cons_succ, i64_w, i32_w]
      rfl
    refine pure_ (i := 34) (N := some 73) (v := ?_) (a' := ?_) (bb 38 34359738367) rfl rfl (by kernel_rfl) (fun _ _ _ h => h) (Or.inl ⟨by rfl, ?_⟩) ?_ ?_
    rotate_left
    · intro w'
      go_simp
      with_reducible rfl
    rotate_left
    · simp only [Act.put, List.setIfInBounds_toArray, List.set_cons_zero, List.set_cons_succ, i64_w, i32_w]
      rfl
    refine one_ (i := 35) (N := some 74) (bb 38 68719476735) rfl rfl (by kernel_rfl) (by decide) (fun K hK => ?_)
    refine goes_ Try.func12 (by kernel_rfl) rfl #[] (by rfl) rfl rfl (by (try simp only [List.map_toArray, List.map_cons, List.map_nil]); first | done | rfl | (go_simp; done) | (go_simp; omega)) ?_
    refine Calls.mono (live_calls _) ?_
    rintro e w' ⟨rfl, hBr⟩
    refine ⟨_, rfl, ?_⟩
    have HBr := Aside0.mk hBr
    clear hBr
    replace HB := Aside0.mk (below_then HB.out HB.out.size HBr.out)
    refine hK.out _ _ (⟨blk_below hHeld.1 HBr.out, blk_below hHeld.2 HBr.out⟩) (fun hHeld => ?_)
    clear hK K
    refine norm_ (a' := ?_) ?_ ?_
    rotate_left
    · show Act.put _ (some 74) _ = _
      simp only [Act.put, List.setIfInBounds_toArray, List.set_cons_zero, List.set_cons_succ, i64_w, i32_w]
      rfl
    refine pure_ (i := 36) (N := some 75) (v := ?_) (a' := ?_) (bb 38 137438953471) rfl rfl (by kernel_rfl) (fun _ _ _ h => h) (Or.inl ⟨by rfl, ?_⟩) ?_ ?_
    rotate_left
    · intro w'
      go_simp
      with_reducible rfl
    rotate_left
    · simp only [Act.put, List.setIfInBounds_toArray, List.set_cons_zero, List.set_cons_succ, i64_w, i32_w]
      rfl
    refine pure_ (i := 37) (N := some 2) (v := ?_) (a' := ?_) (bb 38 274877906943) rfl rfl (by kernel_rfl) (fun _ _ _ h => h) (Or.inl ⟨by rfl, ?_⟩) ?_ ?_
    rotate_left
    · intro w'
      go_simp
      with_reducible rfl
    rotate_left
    · simp only [Act.put, List.setIfInBounds_toArray, List.set_cons_zero, List.set_cons_succ, i64_w, i32_w]
      rfl
    refine done_ (by kernel_rfl) ?_
    go_wp2
    go_ret
    exact ⟨rfl, HB.out⟩
  · go_wp2_with (first | (go_at_call 19; (with_reducible refine HCM.out.mono ?_); rintro e2 w2 ⟨rfl, hD⟩; have HA3 := Aside0.mk (below_step HA2.out hD.below); clear hD y0 y1 y2 y3 y4 y5 y6 y7; dsimp only) | (go_at_call 12; (with_reducible refine (live_calls _).mono ?_); rintro e3 w3 ⟨rfl, hB⟩; replace HA3 := Aside0.mk (below_step HA3.out hB); clear hB; dsimp only))
    go_ret
    exact ⟨rfl, HA3.out⟩
end Go.Proofs.Ytimgfdkndlbfbaa.PCqL
