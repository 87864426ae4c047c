/- The reference of backlog, by hand: Add. Conditions: each theorem's own. -/
import Derived.Test.YtimgfdkndlbfbaaHBkR4
namespace Go.Proofs.Ytimgfdkndlbfbaa.HBkR
open Go.RowKit Go.Proofs.YtimgfdkndlbfbaaW.PrintWords Go.Proofs.YtimgfdkndlbfbaaW.PrintLast Go.Proofs.YtimgfdkndlbfbaaW.PrintMore Go.Proofs.Ytimgfdkndlbfbaa.HBk Go.Proofs.Ytimgfdkndlbfbaa.HReg
set_option linter.unusedVariables false
set_option linter.unusedSimpArgs false
set_option maxRecDepth 100000 in
set_option maxHeartbeats 8000000 in
theorem radd_full1 (m0 m1 : Int) (A : Option Addr) (n c : Nat) (ad tk rf : Int) (l : List (Int × Bool)) (x : Int) (n1 n2 : Nat) (hx : x ∉ l.map (·.1)) (hn1 : (idsF l false n).length = n1) (hn2 : (idsF l true n).length = n2) (hf : m0 ≤ n1) (t0 : 0 ≤ rf) (t1 : rf ≤ 1000000) (w : World) (h : Rw w A n c l) :
    Calls Try.prog 32 #[rv m0 m1 A n c ad tk rf, .int .i64 x] w fun e w' => e = .returned (.tuple #[rv m0 m1 A n c ad tk (rf + 1), .int .i64 5]) ∧ Below w.heap.size w w' := by
  have few := h.few
  have hlen := h.len
  have H := Aside0.mk h
  have HX := Aside0.mk (And.intro (show ix (l.map (·.1)) x = -1 from if_neg hx) trivial)
  have HN1 := Aside0.mk hn1
  have HN2 := Aside0.mk hn2
  unfold rv
  have c0 : decide (0 ≤ (-1 : Int)) = false := by decide
  have e1 : IntKind.i64.wrap (rf + 1) = rf + 1 := wid _ (by omega) (by omega)
  have d1 : decide (m0 ≤ (n1 : Int)) = true := decide_eq_true hf
  clear h hx hn1 hn2 t0 t1 hlen hf
  go_enter Try.func32, Try.ntmps32
  go_upto_region 1 with (fail)
  obtain ⟨hb1, hb2, hB⟩ := boxed w (.cells #[.int .i64 m0, .int .i64 m1, .slice A n c, .int .i64 ad, .int .i64 tk, .int .i64 rf] 74) (.cells #[.int .i64 0, .int .i64 0, .slice none 0 0, .int .i64 0, .int .i64 0, .int .i64 0] 74)
  generalize (w.alloc (.cells #[.int .i64 m0, .int .i64 m1, .slice A n c, .int .i64 ad, .int .i64 tk, .int .i64 rf] 74)).alloc (.cells #[.int .i64 0, .int .i64 0, .slice none 0 0, .int .i64 0, .int .i64 0, .int .i64 0] 74) = w1 at hb1 hb2 hB ⊢
  have HB := Aside0.mk hB
  have H1 := Aside0.mk (H.out.below hB)
  obtain ⟨k1, hk1⟩ : ∃ k1, k1 = w.heap.size + 1 := ⟨_, rfl⟩
  rw [← hk1] at hb2 ⊢
  obtain ⟨g, hg⟩ : ∃ g, w.heap.size = g := ⟨_, rfl⟩
  rw [hg] at hb1 ⊢
  have HG := Aside0.mk (And.intro hg hk1)
  have HP1 := Aside0.mk hb1
  have HP2 := Aside0.mk hb2
  obtain ⟨p0, p1, p2, p3, p4, p5, -⟩ := six hb1
  clear hB hb1 hb2 hg hk1
  go_upto_region 3 with (go_at_call 81; refine (place_calls m0 m1 A n c ad tk rf l H1.out.len H1.out.few x w1 (Ones.of_C H1.out.C)).mono ?_; rintro e w2 ⟨rfl, hB⟩; rw [HX.out.1]; replace HP1 := Aside0.mk (blk_below HP1.out hB); replace HP2 := Aside0.mk (blk_below HP2.out hB); replace H1 := Aside0.mk (H1.out.below hB); replace HB := Aside0.mk (below_step HB.out hB); clear hB p0 p1 p2 p3 p4 p5; obtain ⟨p0, p1, p2, p3, p4, p5, s0, s1, s2, s3, s4, s5⟩ := six HP1.out)
  refine start_ (n := 14) (S := fun w' => w'.heap[g]? = some (.cells #[.int .i64 m0, .int .i64 m1, .slice A n c, .int .i64 ad, .int .i64 tk, .int .i64 rf] 74 (0, 0))) (ds := []) (bb 14 0) (by kernel_rfl) rfl rfl (HP1.out) (fun hHeld => ?_)
  replace HP1 := Aside0.mk (show w2.drew.heap[g]? = _ from HP1.out)
  replace HP2 := Aside0.mk (show w2.drew.heap[k1]? = _ from HP2.out)
  replace HB := Aside0.mk (below_drew HB.out)
  replace H1 := Aside0.mk (show Rw w2.drew A n c l from ⟨Kd.C_drew H1.out.C, H1.out.len, H1.out.cap, H1.out.few⟩)
  clear p0 p1 p2 p3 p4 p5 s0 s1 s2 s3 s4 s5
  generalize w2.drew = w3 at HB HP1 HP2 H1 hHeld ⊢
  refine take_ (i := 0) (N := some 11) (v := ?_) (a' := ?_) (bb 14 1) rfl rfl (by kernel_rfl) (fun _ _ _ h => h) (Or.inl ⟨by rfl, ?_⟩) hHeld ?_ ?_
  rotate_left
  · intro w' hSw
    obtain ⟨p0, p1, p2, p3, p4, p5, -⟩ := six hSw
    go_simp
    with_reducible rfl
  rotate_left
  · simp only [Act.put, List.setIfInBounds_toArray, List.set_cons_zero, List.set_cons_succ, i64_w, i32_w]
    rfl
  refine pure_ (i := 3) (N := some 14) (v := ?_) (a' := ?_) (bb 14 9) rfl rfl (by kernel_rfl) (fun _ _ _ h => h) (Or.inl ⟨by rfl, ?_⟩) ?_ ?_
  rotate_left
  · intro w'
    go_simp
    with_reducible rfl
  rotate_left
  · simp only [Act.put, List.setIfInBounds_toArray, List.set_cons_zero, List.set_cons_succ, i64_w, i32_w]
    rfl
  refine take_ (i := 4) (N := some 15) (v := ?_) (a' := ?_) (bb 14 25) rfl rfl (by kernel_rfl) (fun _ _ _ h => h) (Or.inl ⟨by rfl, ?_⟩) hHeld ?_ ?_
  rotate_left
  · intro w' hSw
    obtain ⟨p0, p1, p2, p3, p4, p5, -⟩ := six hSw
    go_simp
    with_reducible rfl
  rotate_left
  · simp only [Act.put, List.setIfInBounds_toArray, List.set_cons_zero, List.set_cons_succ, i64_w, i32_w]
    rfl
  refine one_ (i := 1) (N := some 12) (bb 14 27) rfl rfl (by kernel_rfl) (by decide) (fun K hK => ?_)
  refine goes_ Try.func42 (by kernel_rfl) rfl #[rv m0 m1 A n c ad tk rf, .bool false] (by rfl) rfl rfl (by (try simp only [List.map_toArray, List.map_cons, List.map_nil]); first | done | rfl | (go_simp; done) | (go_simp; omega)) ?_
  refine Calls.mono (ids_calls m0 m1 A n c ad tk rf l H1.out.len H1.out.few false _ (Ones.of_C H1.out.C)) ?_
  rintro e w' ⟨v_, rfl, hS, hB⟩
  refine ⟨_, rfl, ?_⟩
  obtain ⟨A5, c5, rfl, -, -⟩ := hS.shape
  rw [HN1.out]
  replace HP1 := Aside0.mk (blk_below HP1.out hB)
  replace HP2 := Aside0.mk (blk_below HP2.out hB)
  replace H1 := Aside0.mk (H1.out.below hB)
  replace HB := Aside0.mk (below_step HB.out hB)
  clear hB hS
  refine hK.out _ _ (HP1.out) (fun hHeld => ?_)
  clear hK K
  refine norm_ (a' := ?_) ?_ ?_
  rotate_left
  · show Act.put _ (some 12) _ = _
    simp only [Act.put, List.setIfInBounds_toArray, List.set_cons_zero, List.set_cons_succ, i64_w, i32_w]
    rfl
  refine pure_ (i := 2) (N := some 13) (v := ?_) (a' := ?_) (bb 14 31) rfl rfl (by kernel_rfl) (fun _ _ _ h => h) (Or.inl ⟨by rfl, ?_⟩) ?_ ?_
  rotate_left
  · intro w'
    go_simp
    with_reducible rfl
  rotate_left
  · simp only [Act.put, List.setIfInBounds_toArray, List.set_cons_zero, List.set_cons_succ, i64_w, i32_w]
    rfl
  refine pure_ (i := 5) (N := some 16) (v := ?_) (a' := ?_) (bb 14 63) rfl rfl (by kernel_rfl) (fun _ _ _ h => h) (Or.inl ⟨by rfl, ?_⟩) ?_ ?_
  rotate_left
  · intro w'
    go_simp
    with_reducible rfl
  rotate_left
  · simp only [Act.put, List.setIfInBounds_toArray, List.set_cons_zero, List.set_cons_succ, i64_w, i32_w]
    rfl
  refine pure_ (i := 6) (N := some 17) (v := ?_) (a' := ?_) (bb 14 127) rfl rfl (by kernel_rfl) (fun _ _ _ h => h) (Or.inl ⟨by rfl, ?_⟩) ?_ ?_
  rotate_left
  · intro w'
    go_simp
    with_reducible rfl
  rotate_left
  · simp only [Act.put, List.setIfInBounds_toArray, List.set_cons_zero, List.set_cons_succ, i64_w, i32_w]
    rfl
  refine pure_ (i := 7) (N := some 18) (v := undef) (a' := ?_) (bb 14 255) rfl rfl (by kernel_rfl) (fun _ _ _ h => h) (Or.inr ⟨by rfl, rfl⟩) ?_ ?_
  rotate_left
  · simp only [Act.put, List.setIfInBounds_toArray, List.set_cons_zero, List.set_cons_succ, i64_w, i32_w]
    rfl
  refine pure_ (i := 8) (N := some 19) (v := undef) (a' := ?_) (bb 14 511) rfl rfl (by kernel_rfl) (fun _ _ _ h => h) (Or.inr ⟨by rfl, rfl⟩) ?_ ?_
  rotate_left
  · simp only [Act.put, List.setIfInBounds_toArray, List.set_cons_zero, List.set_cons_succ, i64_w, i32_w]
    rfl
  refine pure_ (i := 9) (N := some 20) (v := undef) (a' := ?_) (bb 14 1023) rfl rfl (by kernel_rfl) (fun _ _ _ h => h) (Or.inr ⟨by rfl, rfl⟩) ?_ ?_
  rotate_left
  · simp only [Act.put, List.setIfInBounds_toArray, List.set_cons_zero, List.set_cons_succ, i64_w, i32_w]
    rfl
  refine pure_ (i := 10) (N := some 21) (v := undef) (a' := ?_) (bb 14 2047) rfl rfl (by kernel_rfl) (fun _ _ _ h => h) (Or.inr ⟨by rfl, rfl⟩) ?_ ?_
  rotate_left
  · simp only [Act.put, List.setIfInBounds_toArray, List.set_cons_zero, List.set_cons_succ, i64_w, i32_w]
    rfl
  refine pure_ (i := 11) (N := some 22) (v := undef) (a' := ?_) (bb 14 4095) rfl rfl (by kernel_rfl) (fun _ _ _ h => h) (Or.inr ⟨by rfl, rfl⟩) ?_ ?_
  rotate_left
  · simp only [Act.put, List.setIfInBounds_toArray, List.set_cons_zero, List.set_cons_succ, i64_w, i32_w]
    rfl
  refine pure_ (i := 12) (N := some 23) (v := undef) (a' := ?_) (bb 14 8191) rfl rfl (by kernel_rfl) (fun _ _ _ h => h) (Or.inr ⟨by rfl, rfl⟩) ?_ ?_
  rotate_left
  · simp only [Act.put, List.setIfInBounds_toArray, List.set_cons_zero, List.set_cons_succ, i64_w, i32_w]
    rfl
  refine pure_ (i := 13) (N := some 24) (v := ?_) (a' := ?_) (bb 14 16383) rfl rfl (by kernel_rfl) (fun _ _ _ h => h) (Or.inl ⟨by rfl, ?_⟩) ?_ ?_
  rotate_left
  · intro w'
    go_simp
    with_reducible rfl
  rotate_left
  · simp only [Act.put, List.setIfInBounds_toArray, List.set_cons_zero, List.set_cons_succ, i64_w, i32_w]
    rfl
  refine done_ (by kernel_rfl) ?_
  clear hHeld
  obtain ⟨w4, hw4⟩ : ∃ w4, w4 = w' := ⟨_, rfl⟩
  rw [← hw4] at HP1 HP2 HB H1 ⊢
  clear hw4
  obtain ⟨p0, p1, p2, p3, p4, p5, s0, s1, s2, s3, s4, s5⟩ := six HP1.out
  go_upto_region 5 with (fail)
  have hgle : w.heap.size ≤ g := by have := HG.out; omega
  have hgk : k1 ≠ g := by have := HG.out; omega
  replace HP2 := Aside0.mk (blk_far HP2.out (p := ⟨g, 5, none⟩) hgk (.int .i64 (rf + 1)))
  replace HP1 := Aside0.mk (blk_put HP1.out 5 (.int .i64 (rf + 1)) rfl)
  replace HB := Aside0.mk (bput (i := 5) (u := .int .i64 (rf + 1)) HB.out hgle)
  clear p0 p1 p2 p3 p4 p5 s0 s1 s2 s3 s4 s5 hgle hgk
  generalize w4.setCell ⟨g, 5, none⟩ (.int .i64 (rf + 1)) = w5 at HP1 HP2 HB ⊢
  obtain ⟨p0, p1, p2, p3, p4, p5, -⟩ := six HP1.out
  obtain ⟨r0, r1, r2, r3, r4, r5, s0, s1, s2, s3, s4, s5⟩ := six HP2.out
  go_wp2
  have hw := HP2.out
  have hk : w.heap.size ≤ k1 := by have := HG.out; omega
  refine bodyPost_ret (results_ct rfl _ _ k1 74 #[.int .i64 m0, .int .i64 m1, .slice A n c, .int .i64 ad, .int .i64 tk, .int .i64 (rf + 1)] (0, 0) _ rfl (six_put hw _ _ _ _ _ _) Try.underlying74 rfl (by kernel_rfl)) rfl ?_
  exact ⟨rfl, bput (bput (bput (bput (bput (bput HB.out hk) hk) hk) hk) hk) hk⟩
set_option maxRecDepth 100000 in
set_option maxHeartbeats 8000000 in
theorem radd_full2 (m0 m1 : Int) (A : Option Addr) (n c : Nat) (ad tk rf : Int) (l : List (Int × Bool)) (x : Int) (n1 n2 : Nat) (hx : x ∉ l.map (·.1)) (hn1 : (idsF l false n).length = n1) (hn2 : (idsF l true n).length = n2) (hf : ¬ m0 ≤ n1 ∧ m1 ≤ n2) (t0 : 0 ≤ rf) (t1 : rf ≤ 1000000) (w : World) (h : Rw w A n c l) :
    Calls Try.prog 32 #[rv m0 m1 A n c ad tk rf, .int .i64 x] w fun e w' => e = .returned (.tuple #[rv m0 m1 A n c ad tk (rf + 1), .int .i64 5]) ∧ Below w.heap.size w w' := by
  have few := h.few
  have hlen := h.len
  have H := Aside0.mk h
  have HX := Aside0.mk (And.intro (show ix (l.map (·.1)) x = -1 from if_neg hx) trivial)
  have HN1 := Aside0.mk hn1
  have HN2 := Aside0.mk hn2
  unfold rv
  have c0 : decide (0 ≤ (-1 : Int)) = false := by decide
  have e1 : IntKind.i64.wrap (rf + 1) = rf + 1 := wid _ (by omega) (by omega)
  have d1 : decide (m0 ≤ (n1 : Int)) = false := decide_eq_false hf.1
  have d2 : decide (m1 ≤ (n2 : Int)) = true := decide_eq_true hf.2
  clear h hx hn1 hn2 t0 t1 hlen hf
  go_enter Try.func32, Try.ntmps32
  go_upto_region 1 with (fail)
  obtain ⟨hb1, hb2, hB⟩ := boxed w (.cells #[.int .i64 m0, .int .i64 m1, .slice A n c, .int .i64 ad, .int .i64 tk, .int .i64 rf] 74) (.cells #[.int .i64 0, .int .i64 0, .slice none 0 0, .int .i64 0, .int .i64 0, .int .i64 0] 74)
  generalize (w.alloc (.cells #[.int .i64 m0, .int .i64 m1, .slice A n c, .int .i64 ad, .int .i64 tk, .int .i64 rf] 74)).alloc (.cells #[.int .i64 0, .int .i64 0, .slice none 0 0, .int .i64 0, .int .i64 0, .int .i64 0] 74) = w1 at hb1 hb2 hB ⊢
  have HB := Aside0.mk hB
  have H1 := Aside0.mk (H.out.below hB)
  obtain ⟨k1, hk1⟩ : ∃ k1, k1 = w.heap.size + 1 := ⟨_, rfl⟩
  rw [← hk1] at hb2 ⊢
  obtain ⟨g, hg⟩ : ∃ g, w.heap.size = g := ⟨_, rfl⟩
  rw [hg] at hb1 ⊢
  have HG := Aside0.mk (And.intro hg hk1)
  have HP1 := Aside0.mk hb1
  have HP2 := Aside0.mk hb2
  obtain ⟨p0, p1, p2, p3, p4, p5, -⟩ := six hb1
  clear hB hb1 hb2 hg hk1
  go_upto_region 3 with (go_at_call 81; refine (place_calls m0 m1 A n c ad tk rf l H1.out.len H1.out.few x w1 (Ones.of_C H1.out.C)).mono ?_; rintro e w2 ⟨rfl, hB⟩; rw [HX.out.1]; replace HP1 := Aside0.mk (blk_below HP1.out hB); replace HP2 := Aside0.mk (blk_below HP2.out hB); replace H1 := Aside0.mk (H1.out.below hB); replace HB := Aside0.mk (below_step HB.out hB); clear hB p0 p1 p2 p3 p4 p5; obtain ⟨p0, p1, p2, p3, p4, p5, s0, s1, s2, s3, s4, s5⟩ := six HP1.out)
  refine start_ (n := 14) (S := fun w' => w'.heap[g]? = some (.cells #[.int .i64 m0, .int .i64 m1, .slice A n c, .int .i64 ad, .int .i64 tk, .int .i64 rf] 74 (0, 0))) (ds := []) (bb 14 0) (by kernel_rfl) rfl rfl (HP1.out) (fun hHeld => ?_)
  replace HP1 := Aside0.mk (show w2.drew.heap[g]? = _ from HP1.out)
  replace HP2 := Aside0.mk (show w2.drew.heap[k1]? = _ from HP2.out)
  replace HB := Aside0.mk (below_drew HB.out)
  replace H1 := Aside0.mk (show Rw w2.drew A n c l from ⟨Kd.C_drew H1.out.C, H1.out.len, H1.out.cap, H1.out.few⟩)
  clear p0 p1 p2 p3 p4 p5 s0 s1 s2 s3 s4 s5
  generalize w2.drew = w3 at HB HP1 HP2 H1 hHeld ⊢
  refine take_ (i := 0) (N := some 11) (v := ?_) (a' := ?_) (bb 14 1) rfl rfl (by kernel_rfl) (fun _ _ _ h => h) (Or.inl ⟨by rfl, ?_⟩) hHeld ?_ ?_
  rotate_left
  · intro w' hSw
    obtain ⟨p0, p1, p2, p3, p4, p5, -⟩ := six hSw
    go_simp
    with_reducible rfl
  rotate_left
  · simp only [Act.put, List.setIfInBounds_toArray, List.set_cons_zero, List.set_cons_succ, i64_w, i32_w]
    rfl
  refine pure_ (i := 3) (N := some 14) (v := ?_) (a' := ?_) (bb 14 9) rfl rfl (by kernel_rfl) (fun _ _ _ h => h) (Or.inl ⟨by rfl, ?_⟩) ?_ ?_
  rotate_left
  · intro w'
    go_simp
    with_reducible rfl
  rotate_left
  · simp only [Act.put, List.setIfInBounds_toArray, List.set_cons_zero, List.set_cons_succ, i64_w, i32_w]
    rfl
  refine take_ (i := 4) (N := some 15) (v := ?_) (a' := ?_) (bb 14 25) rfl rfl (by kernel_rfl) (fun _ _ _ h => h) (Or.inl ⟨by rfl, ?_⟩) hHeld ?_ ?_
  rotate_left
  · intro w' hSw
    obtain ⟨p0, p1, p2, p3, p4, p5, -⟩ := six hSw
    go_simp
    with_reducible rfl
  rotate_left
  · simp only [Act.put, List.setIfInBounds_toArray, List.set_cons_zero, List.set_cons_succ, i64_w, i32_w]
    rfl
  refine one_ (i := 1) (N := some 12) (bb 14 27) rfl rfl (by kernel_rfl) (by decide) (fun K hK => ?_)
  refine goes_ Try.func42 (by kernel_rfl) rfl #[rv m0 m1 A n c ad tk rf, .bool false] (by rfl) rfl rfl (by (try simp only [List.map_toArray, List.map_cons, List.map_nil]); first | done | rfl | (go_simp; done) | (go_simp; omega)) ?_
  refine Calls.mono (ids_calls m0 m1 A n c ad tk rf l H1.out.len H1.out.few false _ (Ones.of_C H1.out.C)) ?_
  rintro e w' ⟨v_, rfl, hS, hB⟩
  refine ⟨_, rfl, ?_⟩
  obtain ⟨A5, c5, rfl, -, -⟩ := hS.shape
  rw [HN1.out]
  replace HP1 := Aside0.mk (blk_below HP1.out hB)
  replace HP2 := Aside0.mk (blk_below HP2.out hB)
  replace H1 := Aside0.mk (H1.out.below hB)
  replace HB := Aside0.mk (below_step HB.out hB)
  clear hB hS
  refine hK.out _ _ (HP1.out) (fun hHeld => ?_)
  clear hK K
  refine norm_ (a' := ?_) ?_ ?_
  rotate_left
  · show Act.put _ (some 12) _ = _
    simp only [Act.put, List.setIfInBounds_toArray, List.set_cons_zero, List.set_cons_succ, i64_w, i32_w]
    rfl
  refine pure_ (i := 2) (N := some 13) (v := ?_) (a' := ?_) (bb 14 31) rfl rfl (by kernel_rfl) (fun _ _ _ h => h) (Or.inl ⟨by rfl, ?_⟩) ?_ ?_
  rotate_left
  · intro w'
    go_simp
    with_reducible rfl
  rotate_left
  · simp only [Act.put, List.setIfInBounds_toArray, List.set_cons_zero, List.set_cons_succ, i64_w, i32_w]
    rfl
  refine pure_ (i := 5) (N := some 16) (v := ?_) (a' := ?_) (bb 14 63) rfl rfl (by kernel_rfl) (fun _ _ _ h => h) (Or.inl ⟨by rfl, ?_⟩) ?_ ?_
  rotate_left
  · intro w'
    go_simp
    with_reducible rfl
  rotate_left
  · simp only [Act.put, List.setIfInBounds_toArray, List.set_cons_zero, List.set_cons_succ, i64_w, i32_w]
    rfl
  refine pure_ (i := 6) (N := some 17) (v := ?_) (a' := ?_) (bb 14 127) rfl rfl (by kernel_rfl) (fun _ _ _ h => h) (Or.inl ⟨by rfl, ?_⟩) ?_ ?_
  rotate_left
  · intro w'
    go_simp
    with_reducible rfl
  rotate_left
  · simp only [Act.put, List.setIfInBounds_toArray, List.set_cons_zero, List.set_cons_succ, i64_w, i32_w]
    rfl
  refine take_ (i := 7) (N := some 18) (v := ?_) (a' := ?_) (bb 14 255) rfl rfl (by kernel_rfl) (fun _ _ _ h => h) (Or.inl ⟨by rfl, ?_⟩) hHeld ?_ ?_
  rotate_left
  · intro w' hSw
    obtain ⟨p0, p1, p2, p3, p4, p5, -⟩ := six hSw
    go_simp
    with_reducible rfl
  rotate_left
  · simp only [Act.put, List.setIfInBounds_toArray, List.set_cons_zero, List.set_cons_succ, i64_w, i32_w]
    rfl
  refine pure_ (i := 10) (N := some 21) (v := ?_) (a' := ?_) (bb 14 1279) rfl rfl (by kernel_rfl) (fun _ _ _ h => h) (Or.inl ⟨by rfl, ?_⟩) ?_ ?_
  rotate_left
  · intro w'
    go_simp
    with_reducible rfl
  rotate_left
  · simp only [Act.put, List.setIfInBounds_toArray, List.set_cons_zero, List.set_cons_succ, i64_w, i32_w]
    rfl
  refine take_ (i := 11) (N := some 22) (v := ?_) (a' := ?_) (bb 14 3327) rfl rfl (by kernel_rfl) (fun _ _ _ h => h) (Or.inl ⟨by rfl, ?_⟩) hHeld ?_ ?_
  rotate_left
  · intro w' hSw
    obtain ⟨p0, p1, p2, p3, p4, p5, -⟩ := six hSw
    go_simp
    with_reducible rfl
  rotate_left
  · simp only [Act.put, List.setIfInBounds_toArray, List.set_cons_zero, List.set_cons_succ, i64_w, i32_w]
    rfl
  refine one_ (i := 8) (N := some 19) (bb 14 3583) rfl rfl (by kernel_rfl) (by decide) (fun K hK => ?_)
  refine goes_ Try.func42 (by kernel_rfl) rfl #[rv m0 m1 A n c ad tk rf, .bool true] (by rfl) rfl rfl (by (try simp only [List.map_toArray, List.map_cons, List.map_nil]); first | done | rfl | (go_simp; done) | (go_simp; omega)) ?_
  refine Calls.mono (ids_calls m0 m1 A n c ad tk rf l H1.out.len H1.out.few true _ (Ones.of_C H1.out.C)) ?_
  rintro e w' ⟨v_, rfl, hS, hB⟩
  refine ⟨_, rfl, ?_⟩
  obtain ⟨A6, c6, rfl, -, -⟩ := hS.shape
  rw [HN2.out]
  replace HP1 := Aside0.mk (blk_below HP1.out hB)
  replace HP2 := Aside0.mk (blk_below HP2.out hB)
  replace H1 := Aside0.mk (H1.out.below hB)
  replace HB := Aside0.mk (below_step HB.out hB)
  clear hB hS
  refine hK.out _ _ (HP1.out) (fun hHeld => ?_)
  clear hK K
  refine norm_ (a' := ?_) ?_ ?_
  rotate_left
  · show Act.put _ (some 19) _ = _
    simp only [Act.put, List.setIfInBounds_toArray, List.set_cons_zero, List.set_cons_succ, i64_w, i32_w]
    rfl
  refine pure_ (i := 9) (N := some 20) (v := ?_) (a' := ?_) (bb 14 4095) rfl rfl (by kernel_rfl) (fun _ _ _ h => h) (Or.inl ⟨by rfl, ?_⟩) ?_ ?_
  rotate_left
  · intro w'
    go_simp
    with_reducible rfl
  rotate_left
  · simp only [Act.put, List.setIfInBounds_toArray, List.set_cons_zero, List.set_cons_succ, i64_w, i32_w]
    rfl
  refine pure_ (i := 12) (N := some 23) (v := ?_) (a' := ?_) (bb 14 8191) rfl rfl (by kernel_rfl) (fun _ _ _ h => h) (Or.inl ⟨by rfl, ?_⟩) ?_ ?_
  rotate_left
  · intro w'
    go_simp
    with_reducible rfl
  rotate_left
  · simp only [Act.put, List.setIfInBounds_toArray, List.set_cons_zero, List.set_cons_succ, i64_w, i32_w]
    rfl
  refine pure_ (i := 13) (N := some 24) (v := ?_) (a' := ?_) (bb 14 16383) rfl rfl (by kernel_rfl) (fun _ _ _ h => h) (Or.inl ⟨by rfl, ?_⟩) ?_ ?_
  rotate_left
  · intro w'
    go_simp
    with_reducible rfl
  rotate_left
  · simp only [Act.put, List.setIfInBounds_toArray, List.set_cons_zero, List.set_cons_succ, i64_w, i32_w]
    rfl
  refine done_ (by kernel_rfl) ?_
  clear hHeld
  obtain ⟨w4, hw4⟩ : ∃ w4, w4 = w' := ⟨_, rfl⟩
  rw [← hw4] at HP1 HP2 HB H1 ⊢
  clear hw4
  obtain ⟨p0, p1, p2, p3, p4, p5, s0, s1, s2, s3, s4, s5⟩ := six HP1.out
  go_upto_region 5 with (fail)
  have hgle : w.heap.size ≤ g := by have := HG.out; omega
  have hgk : k1 ≠ g := by have := HG.out; omega
  replace HP2 := Aside0.mk (blk_far HP2.out (p := ⟨g, 5, none⟩) hgk (.int .i64 (rf + 1)))
  replace HP1 := Aside0.mk (blk_put HP1.out 5 (.int .i64 (rf + 1)) rfl)
  replace HB := Aside0.mk (bput (i := 5) (u := .int .i64 (rf + 1)) HB.out hgle)
  clear p0 p1 p2 p3 p4 p5 s0 s1 s2 s3 s4 s5 hgle hgk
  generalize w4.setCell ⟨g, 5, none⟩ (.int .i64 (rf + 1)) = w5 at HP1 HP2 HB ⊢
  obtain ⟨p0, p1, p2, p3, p4, p5, -⟩ := six HP1.out
  obtain ⟨r0, r1, r2, r3, r4, r5, s0, s1, s2, s3, s4, s5⟩ := six HP2.out
  go_wp2
  have hw := HP2.out
  have hk : w.heap.size ≤ k1 := by have := HG.out; omega
  refine bodyPost_ret (results_ct rfl _ _ k1 74 #[.int .i64 m0, .int .i64 m1, .slice A n c, .int .i64 ad, .int .i64 tk, .int .i64 (rf + 1)] (0, 0) _ rfl (six_put hw _ _ _ _ _ _) Try.underlying74 rfl (by kernel_rfl)) rfl ?_
  exact ⟨rfl, bput (bput (bput (bput (bput (bput HB.out hk) hk) hk) hk) hk) hk⟩
set_option maxRecDepth 100000 in
set_option maxHeartbeats 8000000 in
theorem radd_in (m0 m1 : Int) (A : Option Addr) (n c : Nat) (ad tk rf : Int) (l : List (Int × Bool)) (x : Int) (n1 n2 : Nat) (hx : x ∉ l.map (·.1)) (hn1 : (idsF l false n).length = n1) (hn2 : (idsF l true n).length = n2) (hf : ¬ m0 ≤ n1) (hf2 : ¬ m1 ≤ n2) (hn3 : n + 1 ≤ 1000) (t0 : 0 ≤ ad) (t1 : ad ≤ 1000000) (w : World) (h : Rw w A n c l) :
    Calls Try.prog 32 #[rv m0 m1 A n c ad tk rf, .int .i64 x] w fun e w' => ∃ A' c', e = .returned (.tuple #[rv m0 m1 A' (n + 1) c' (ad + 1) tk rf, .int .i64 0]) ∧ Kd.R dd 159 w' w.heap.size (fun _ => True) (.slice A' (n + 1) c') (l ++ [(x, false)]) ∧ Below w.heap.size w w' := by
  have few := h.few
  have hlen := h.len
  have H := Aside0.mk h
  have HX := Aside0.mk (And.intro (show ix (l.map (·.1)) x = -1 from if_neg hx) trivial)
  have HN1 := Aside0.mk hn1
  have HN2 := Aside0.mk hn2
  unfold rv
  have c0 : decide (0 ≤ (-1 : Int)) = false := by decide
  have e1 : IntKind.i64.wrap (ad + 1) = ad + 1 := wid _ (by omega) (by omega)
  have d1 : decide (m0 ≤ (n1 : Int)) = false := decide_eq_false hf
  have d2 : decide (m1 ≤ (n2 : Int)) = false := decide_eq_false hf2
  have HQ := Aside0.mk (show (l ++ [(x, false)]).length = n + 1 by rw [List.length_append, hlen]; rfl)
  clear h hx hn1 hn2 t0 t1 hlen hf hf2 hn3
  go_enter Try.func32, Try.ntmps32
  go_upto_region 1 with (fail)
  obtain ⟨hb1, hb2, hB⟩ := boxed w (.cells #[.int .i64 m0, .int .i64 m1, .slice A n c, .int .i64 ad, .int .i64 tk, .int .i64 rf] 74) (.cells #[.int .i64 0, .int .i64 0, .slice none 0 0, .int .i64 0, .int .i64 0, .int .i64 0] 74)
  generalize (w.alloc (.cells #[.int .i64 m0, .int .i64 m1, .slice A n c, .int .i64 ad, .int .i64 tk, .int .i64 rf] 74)).alloc (.cells #[.int .i64 0, .int .i64 0, .slice none 0 0, .int .i64 0, .int .i64 0, .int .i64 0] 74) = w1 at hb1 hb2 hB ⊢
  have HB := Aside0.mk hB
  have H1 := Aside0.mk (H.out.below hB)
  obtain ⟨k1, hk1⟩ : ∃ k1, k1 = w.heap.size + 1 := ⟨_, rfl⟩
  rw [← hk1] at hb2 ⊢
  obtain ⟨g, hg⟩ : ∃ g, w.heap.size = g := ⟨_, rfl⟩
  rw [hg] at hb1 ⊢
  have HG := Aside0.mk (And.intro hg hk1)
  have HP1 := Aside0.mk hb1
  have HP2 := Aside0.mk hb2
  obtain ⟨p0, p1, p2, p3, p4, p5, -⟩ := six hb1
  clear hB hb1 hb2 hg hk1
  go_upto_region 3 with (go_at_call 81; refine (place_calls m0 m1 A n c ad tk rf l H1.out.len H1.out.few x w1 (Ones.of_C H1.out.C)).mono ?_; rintro e w2 ⟨rfl, hB⟩; rw [HX.out.1]; replace HP1 := Aside0.mk (blk_below HP1.out hB); replace HP2 := Aside0.mk (blk_below HP2.out hB); replace H1 := Aside0.mk (H1.out.below hB); replace HB := Aside0.mk (below_step HB.out hB); clear hB p0 p1 p2 p3 p4 p5; obtain ⟨p0, p1, p2, p3, p4, p5, s0, s1, s2, s3, s4, s5⟩ := six HP1.out)
  refine start_ (n := 14) (S := fun w' => w'.heap[g]? = some (.cells #[.int .i64 m0, .int .i64 m1, .slice A n c, .int .i64 ad, .int .i64 tk, .int .i64 rf] 74 (0, 0))) (ds := []) (bb 14 0) (by kernel_rfl) rfl rfl (HP1.out) (fun hHeld => ?_)
  replace HP1 := Aside0.mk (show w2.drew.heap[g]? = _ from HP1.out)
  replace HP2 := Aside0.mk (show w2.drew.heap[k1]? = _ from HP2.out)
  replace HB := Aside0.mk (below_drew HB.out)
  replace H1 := Aside0.mk (show Rw w2.drew A n c l from ⟨Kd.C_drew H1.out.C, H1.out.len, H1.out.cap, H1.out.few⟩)
  clear p0 p1 p2 p3 p4 p5 s0 s1 s2 s3 s4 s5
  generalize w2.drew = w3 at HB HP1 HP2 H1 hHeld ⊢
  refine take_ (i := 0) (N := some 11) (v := ?_) (a' := ?_) (bb 14 1) rfl rfl (by kernel_rfl) (fun _ _ _ h => h) (Or.inl ⟨by rfl, ?_⟩) hHeld ?_ ?_
  rotate_left
  · intro w' hSw
    obtain ⟨p0, p1, p2, p3, p4, p5, -⟩ := six hSw
    go_simp
    with_reducible rfl
  rotate_left
  · simp only [Act.put, List.setIfInBounds_toArray, List.set_cons_zero, List.set_cons_succ, i64_w, i32_w]
    rfl
  refine pure_ (i := 3) (N := some 14) (v := ?_) (a' := ?_) (bb 14 9) rfl rfl (by kernel_rfl) (fun _ _ _ h => h) (Or.inl ⟨by rfl, ?_⟩) ?_ ?_
  rotate_left
  · intro w'
    go_simp
    with_reducible rfl
  rotate_left
  · simp only [Act.put, List.setIfInBounds_toArray, List.set_cons_zero, List.set_cons_succ, i64_w, i32_w]
    rfl
  refine take_ (i := 4) (N := some 15) (v := ?_) (a' := ?_) (bb 14 25) rfl rfl (by kernel_rfl) (fun _ _ _ h => h) (Or.inl ⟨by rfl, ?_⟩) hHeld ?_ ?_
  rotate_left
  · intro w' hSw
    obtain ⟨p0, p1, p2, p3, p4, p5, -⟩ := six hSw
    go_simp
    with_reducible rfl
  rotate_left
  · simp only [Act.put, List.setIfInBounds_toArray, List.set_cons_zero, List.set_cons_succ, i64_w, i32_w]
    rfl
  refine one_ (i := 1) (N := some 12) (bb 14 27) rfl rfl (by kernel_rfl) (by decide) (fun K hK => ?_)
  refine goes_ Try.func42 (by kernel_rfl) rfl #[rv m0 m1 A n c ad tk rf, .bool false] (by rfl) rfl rfl (by (try simp only [List.map_toArray, List.map_cons, List.map_nil]); first | done | rfl | (go_simp; done) | (go_simp; omega)) ?_
  refine Calls.mono (ids_calls m0 m1 A n c ad tk rf l H1.out.len H1.out.few false _ (Ones.of_C H1.out.C)) ?_
  rintro e w' ⟨v_, rfl, hS, hB⟩
  refine ⟨_, rfl, ?_⟩
  obtain ⟨A5, c5, rfl, -, -⟩ := hS.shape
  rw [HN1.out]
  replace HP1 := Aside0.mk (blk_below HP1.out hB)
  replace HP2 := Aside0.mk (blk_below HP2.out hB)
  replace H1 := Aside0.mk (H1.out.below hB)
  replace HB := Aside0.mk (below_step HB.out hB)
  clear hB hS
  refine hK.out _ _ (HP1.out) (fun hHeld => ?_)
  clear hK K
  refine norm_ (a' := ?_) ?_ ?_
  rotate_left
  · show Act.put _ (some 12) _ = _
    simp only [Act.put, List.setIfInBounds_toArray, List.set_cons_zero, List.set_cons_succ, i64_w, i32_w]
    rfl
  refine pure_ (i := 2) (N := some 13) (v := ?_) (a' := ?_) (bb 14 31) rfl rfl (by kernel_rfl) (fun _ _ _ h => h) (Or.inl ⟨by rfl, ?_⟩) ?_ ?_
  rotate_left
  · intro w'
    go_simp
    with_reducible rfl
  rotate_left
  · simp only [Act.put, List.setIfInBounds_toArray, List.set_cons_zero, List.set_cons_succ, i64_w, i32_w]
    rfl
  refine pure_ (i := 5) (N := some 16) (v := ?_) (a' := ?_) (bb 14 63) rfl rfl (by kernel_rfl) (fun _ _ _ h => h) (Or.inl ⟨by rfl, ?_⟩) ?_ ?_
  rotate_left
  · intro w'
    go_simp
    with_reducible rfl
  rotate_left
  · simp only [Act.put, List.setIfInBounds_toArray, List.set_cons_zero, List.set_cons_succ, i64_w, i32_w]
    rfl
  refine pure_ (i := 6) (N := some 17) (v := ?_) (a' := ?_) (bb 14 127) rfl rfl (by kernel_rfl) (fun _ _ _ h => h) (Or.inl ⟨by rfl, ?_⟩) ?_ ?_
  rotate_left
  · intro w'
    go_simp
    with_reducible rfl
  rotate_left
  · simp only [Act.put, List.setIfInBounds_toArray, List.set_cons_zero, List.set_cons_succ, i64_w, i32_w]
    rfl
  refine take_ (i := 7) (N := some 18) (v := ?_) (a' := ?_) (bb 14 255) rfl rfl (by kernel_rfl) (fun _ _ _ h => h) (Or.inl ⟨by rfl, ?_⟩) hHeld ?_ ?_
  rotate_left
  · intro w' hSw
    obtain ⟨p0, p1, p2, p3, p4, p5, -⟩ := six hSw
    go_simp
    with_reducible rfl
  rotate_left
  · simp only [Act.put, List.setIfInBounds_toArray, List.set_cons_zero, List.set_cons_succ, i64_w, i32_w]
    rfl
  refine pure_ (i := 10) (N := some 21) (v := ?_) (a' := ?_) (bb 14 1279) rfl rfl (by kernel_rfl) (fun _ _ _ h => h) (Or.inl ⟨by rfl, ?_⟩) ?_ ?_
  rotate_left
  · intro w'
    go_simp
    with_reducible rfl
  rotate_left
  · simp only [Act.put, List.setIfInBounds_toArray, List.set_cons_zero, List.set_cons_succ, i64_w, i32_w]
    rfl
  refine take_ (i := 11) (N := some 22) (v := ?_) (a' := ?_) (bb 14 3327) rfl rfl (by kernel_rfl) (fun _ _ _ h => h) (Or.inl ⟨by rfl, ?_⟩) hHeld ?_ ?_
  rotate_left
  · intro w' hSw
    obtain ⟨p0, p1, p2, p3, p4, p5, -⟩ := six hSw
    go_simp
    with_reducible rfl
  rotate_left
  · simp only [Act.put, List.setIfInBounds_toArray, List.set_cons_zero, List.set_cons_succ, i64_w, i32_w]
    rfl
  refine one_ (i := 8) (N := some 19) (bb 14 3583) rfl rfl (by kernel_rfl) (by decide) (fun K hK => ?_)
  refine goes_ Try.func42 (by kernel_rfl) rfl #[rv m0 m1 A n c ad tk rf, .bool true] (by rfl) rfl rfl (by (try simp only [List.map_toArray, List.map_cons, List.map_nil]); first | done | rfl | (go_simp; done) | (go_simp; omega)) ?_
  refine Calls.mono (ids_calls m0 m1 A n c ad tk rf l H1.out.len H1.out.few true _ (Ones.of_C H1.out.C)) ?_
  rintro e w' ⟨v_, rfl, hS, hB⟩
  refine ⟨_, rfl, ?_⟩
  obtain ⟨A6, c6, rfl, -, -⟩ := hS.shape
  rw [HN2.out]
  replace HP1 := Aside0.mk (blk_below HP1.out hB)
  replace HP2 := Aside0.mk (blk_below HP2.out hB)
  replace H1 := Aside0.mk (H1.out.below hB)
  replace HB := Aside0.mk (below_step HB.out hB)
  clear hB hS
  refine hK.out _ _ (HP1.out) (fun hHeld => ?_)
  clear hK K
  refine norm_ (a' := ?_) ?_ ?_
  rotate_left
  · show Act.put _ (some 19) _ = _
    simp only [Act.put, List.setIfInBounds_toArray, List.set_cons_zero, List.set_cons_succ, i64_w, i32_w]
    rfl
  refine pure_ (i := 9) (N := some 20) (v := ?_) (a' := ?_) (bb 14 4095) rfl rfl (by kernel_rfl) (fun _ _ _ h => h) (Or.inl ⟨by rfl, ?_⟩) ?_ ?_
  rotate_left
  · intro w'
    go_simp
    with_reducible rfl
  rotate_left
  · simp only [Act.put, List.setIfInBounds_toArray, List.set_cons_zero, List.set_cons_succ, i64_w, i32_w]
    rfl
  refine pure_ (i := 12) (N := some 23) (v := ?_) (a' := ?_) (bb 14 8191) rfl rfl (by kernel_rfl) (fun _ _ _ h => h) (Or.inl ⟨by rfl, ?_⟩) ?_ ?_
  rotate_left
  · intro w'
    go_simp
    with_reducible rfl
  rotate_left
  · simp only [Act.put, List.setIfInBounds_toArray, List.set_cons_zero, List.set_cons_succ, i64_w, i32_w]
    rfl
  refine pure_ (i := 13) (N := some 24) (v := ?_) (a' := ?_) (bb 14 16383) rfl rfl (by kernel_rfl) (fun _ _ _ h => h) (Or.inl ⟨by rfl, ?_⟩) ?_ ?_
  rotate_left
  · intro w'
    go_simp
    with_reducible rfl
  rotate_left
  · simp only [Act.put, List.setIfInBounds_toArray, List.set_cons_zero, List.set_cons_succ, i64_w, i32_w]
    rfl
  refine done_ (by kernel_rfl) ?_
  clear hHeld
  obtain ⟨w4, hw4⟩ : ∃ w4, w4 = w' := ⟨_, rfl⟩
  rw [← hw4] at HP1 HP2 HB H1 ⊢
  clear hw4
  obtain ⟨p0, p1, p2, p3, p4, p5, s0, s1, s2, s3, s4, s5⟩ := six HP1.out
  have hg4 := blk_lt HP1.out
  have hg5 : (g = w4.heap.size) = False := eq_false (by omega)
  go_upto_region 7 with (first | ((with_reducible refine gate_builtin (b := .append) (xs := #[.tmp 30, .tmp 32]) rfl ?_); refine Kd.R_append_rows dd (Rr := dd.K _) (w0 := w) w.heap.size rfl (.tmp 30) (.tmp 32) 72 159 (.agg #[.int .i64 0, .bool false]) 16 rfl Try.underlying72 info159 rfl (by decide) (by decide) (.slice (some ⟨w4.heap.size, 0, none⟩) 0 0) [] l A n c (fun _ => True) (fun _ => False) rfl rfl (dd_empty w4 _ HB.out.size) (Kd.C_below H1.out.C (below_alloc (Below.refl _ w4) _)) (dd_KM _ _) (fun _ h => h.elim) (fun _ _ => trivial) (below_alloc HB.out _) (below_alloc HB.out (.cells #[] 159)).size ?hl ?_; (case hl => have := H.out.few; simp only [List.length_nil]; omega); intro v5 w5 hR hB hG hO; rw [List.nil_append] at hR; have hb5 : Below w4.heap.size w4 w5 := pw_below_grown (below_alloc (Below.refl _ w4) _) _ (below_alloc (Below.refl _ w4) (.cells #[] 159)).size hG (fun k hk => by have : w4.heap.size = k := (by simpa [Value.ownBlock] using hk); omega); replace HP1 := Aside0.mk (blk_below HP1.out hb5); replace HP2 := Aside0.mk (blk_below HP2.out hb5); have HR := Aside0.mk hR; replace HB := Aside0.mk hB; clear hR hB hG hO hb5 p0 p1 p2 p3 p4 p5 s0 s1 s2 s3 s4 s5; obtain ⟨p0, p1, p2, p3, p4, p5, s0, s1, s2, s3, s4, s5⟩ := six HP1.out) | ((with_reducible refine gate_builtin (b := .append) (xs := #[.tmp 33, .tmp 36]) rfl ?_); refine Kd.R_append dd (w0 := w) w.heap.size rfl (.tmp 33) (.tmp 36) 72 159 (.agg #[.int .i64 0, .bool false]) 16 rfl Try.underlying72 info159 rfl (by decide) (by decide) v5 l (x, false) [.int .i64 x, .bool false] (fun _ => True) (fun _ => False) rfl rfl (dd_M _ _ _ (x, false)) (fun _ h => h.elim) (fun _ _ => trivial) HR.out HB.out HB.out.size ?hm ?_; (case hm => have := H.out.few; have := H.out.len; omega); intro v6 w6 hR hB hG hO; obtain ⟨A6, c6, rfl⟩ := Kd.R_slice hR; rw [HQ.out] at hR hO ⊢; have hn1 := Kd.R_ne HR.out HP1.out (show (159 : Nat) ≠ 74 by decide); have hn2 := Kd.R_ne HR.out HP2.out (show (159 : Nat) ≠ 74 by decide); replace HP1 := Aside0.mk (blk_grown HP1.out hG hn1); replace HP2 := Aside0.mk (blk_grown HP2.out hG hn2); replace HR := Aside0.mk hR; replace HB := Aside0.mk hB; clear hR hB hG hO hn1 hn2 p0 p1 p2 p3 p4 p5 s0 s1 s2 s3 s4 s5; obtain ⟨p0, p1, p2, p3, p4, p5, s0, s1, s2, s3, s4, s5⟩ := six HP1.out))
  clear hg4 hg5
  have hgle : w.heap.size ≤ g := by have := HG.out; omega
  have hgk : k1 ≠ g := by have := HG.out; omega
  replace HR := Aside0.mk (dd_one (i := 2) (u := .slice A6 (n + 1) c6) HR.out HP1.out)
  replace HP2 := Aside0.mk (blk_far HP2.out (p := ⟨g, 2, none⟩) hgk (.slice A6 (n + 1) c6))
  replace HP1 := Aside0.mk (blk_put HP1.out 2 (.slice A6 (n + 1) c6) rfl)
  replace HB := Aside0.mk (bput (i := 2) (u := .slice A6 (n + 1) c6) HB.out hgle)
  clear p0 p1 p2 p3 p4 p5 s0 s1 s2 s3 s4 s5 hgle hgk
  generalize w6.setCell ⟨g, 2, none⟩ (.slice A6 (n + 1) c6) = w7 at HR HP1 HP2 HB ⊢
  obtain ⟨p0, p1, p2, p3, p4, p5, s0, s1, s2, s3, s4, s5⟩ := six HP1.out
  go_upto_region 8 with (fail)
  have hgle : w.heap.size ≤ g := by have := HG.out; omega
  have hgk : k1 ≠ g := by have := HG.out; omega
  replace HR := Aside0.mk (dd_one (i := 3) (u := .int .i64 (ad + 1)) HR.out HP1.out)
  replace HP2 := Aside0.mk (blk_far HP2.out (p := ⟨g, 3, none⟩) hgk (.int .i64 (ad + 1)))
  replace HP1 := Aside0.mk (blk_put HP1.out 3 (.int .i64 (ad + 1)) rfl)
  replace HB := Aside0.mk (bput (i := 3) (u := .int .i64 (ad + 1)) HB.out hgle)
  clear p0 p1 p2 p3 p4 p5 s0 s1 s2 s3 s4 s5 hgle hgk
  generalize w7.setCell ⟨g, 3, none⟩ (.int .i64 (ad + 1)) = w8 at HR HP1 HP2 HB ⊢
  obtain ⟨p0, p1, p2, p3, p4, p5, s0, s1, s2, s3, s4, s5⟩ := six HP1.out
  clear s0 s1 s2 s3 s4 s5
  obtain ⟨r0, r1, r2, r3, r4, r5, s0, s1, s2, s3, s4, s5⟩ := six HP2.out
  go_wp2
  have hw := HP2.out
  have hk : w.heap.size ≤ k1 := by have := HG.out; omega
  refine bodyPost_ret (results_ct rfl _ _ k1 74 #[.int .i64 m0, .int .i64 m1, .slice A6 (n + 1) c6, .int .i64 (ad + 1), .int .i64 tk, .int .i64 rf] (0, 0) _ rfl (six_put hw _ _ _ _ _ _) Try.underlying74 rfl (by kernel_rfl)) rfl ?_
  exact ⟨A6, c6, rfl, dd_six HR.out hw _ _ _ _ _ _, bput (bput (bput (bput (bput (bput HB.out hk) hk) hk) hk) hk) hk⟩
end Go.Proofs.Ytimgfdkndlbfbaa.HBkR
