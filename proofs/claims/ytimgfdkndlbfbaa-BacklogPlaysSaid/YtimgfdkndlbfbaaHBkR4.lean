/- The reference of backlog, by hand: Ready, Take and Add where something is done. Conditions: each theorem's own. -/
import Derived.Test.YtimgfdkndlbfbaaHBkR3
namespace Go.Proofs.Ytimgfdkndlbfbaa.HBkR
open Go.RowKit Go.Proofs.YtimgfdkndlbfbaaW.PrintWords Go.Proofs.YtimgfdkndlbfbaaW.PrintLast Go.Proofs.YtimgfdkndlbfbaaW.PrintMore Go.Proofs.Ytimgfdkndlbfbaa.HBk Go.Proofs.Ytimgfdkndlbfbaa.HReg
set_option linter.unusedVariables false
set_option linter.unusedSimpArgs false
theorem dd_empty (w : World) (base : Nat) (hb : base ≤ w.heap.size) : Kd.R dd 159 (w.alloc (.cells #[] 159)) base (fun _ => True) (.slice (some ⟨w.heap.size, 0, none⟩) 0 0) [] :=
  ⟨fun _ _ => trivial, [], by have := World.ownsRow_lit (base := base) (e := 159) (size := 2) w #[] 0 hb (by decide) (by rfl); exact this, Reps.none _ _⟩
theorem dd_below {w w' : World} {base : Nat} {v : Value} {l : List (Int × Bool)} (h : Kd.R dd 159 w base (fun _ => True) v l) (hb : Below w.heap.size w w') : Kd.R dd 159 w' base (fun _ => True) v l := Kd.R_below h hb
theorem six_below {w w' : World} {base g : Nat} {m0 m1 ad tk rf : Int} {u : Value} (h : w.heap[g]? = some (.cells #[.int .i64 m0, .int .i64 m1, u, .int .i64 ad, .int .i64 tk, .int .i64 rf] 74 (0, 0))) (hb : Below w.heap.size w w') : w'.heap[g]? = some (.cells #[.int .i64 m0, .int .i64 m1, u, .int .i64 ad, .int .i64 tk, .int .i64 rf] 74 (0, 0)) := blk_below h hb
/-- A row of the call's own as a row that is read. -/
theorem Rw.of_R {w : World} {base n c : Nat} {A : Option Addr} {l : List (Int × Bool)} (h : Kd.R dd 159 w base (fun _ => True) (.slice A n c) l) (hn : n ≤ 1000) : Rw w A n c l := by
  obtain ⟨A', c', e, hl, hc⟩ := Kd.R_reads h
  injection e with e1 e2 e3
  subst e1; subst e2; subst e3
  exact ⟨hc, rfl, hl, hn⟩
theorem six_far {w : World} {g k : Nat} {cs : Array Value} {t : TypeId} (h : w.heap[k]? = some (.cells cs t (0, 0))) (hk : k ≠ g) (y0 y1 y2 y3 y4 y5 : Value) : ((((((w.setCell ⟨g, 0, none⟩ y0).setCell ⟨g, 1, none⟩ y1).setCell ⟨g, 2, none⟩ y2).setCell ⟨g, 3, none⟩ y3).setCell ⟨g, 4, none⟩ y4).setCell ⟨g, 5, none⟩ y5).heap[k]? = some (.cells cs t (0, 0)) :=
  blk_far (blk_far (blk_far (blk_far (blk_far (blk_far h (p := ⟨g, 0, none⟩) hk _) (p := ⟨g, 1, none⟩) hk _) (p := ⟨g, 2, none⟩) hk _) (p := ⟨g, 3, none⟩) hk _) (p := ⟨g, 4, none⟩) hk _) (p := ⟨g, 5, none⟩) hk _
theorem six_b {b g : Nat} {a w : World} (h : Below b a w) (hg : b ≤ g) (y0 y1 y2 y3 y4 y5 : Value) : Below b a ((((((w.setCell ⟨g, 0, none⟩ y0).setCell ⟨g, 1, none⟩ y1).setCell ⟨g, 2, none⟩ y2).setCell ⟨g, 3, none⟩ y3).setCell ⟨g, 4, none⟩ y4).setCell ⟨g, 5, none⟩ y5) := bput (bput (bput (bput (bput (bput h hg) hg) hg) hg) hg) hg
theorem sl_six {w : World} {b0 g : Nat} {v : Value} {l : List Int} {x0 x1 x2 x3 x4 x5 : Value} (h : Sl b0 w v l) (hb : w.heap[g]? = some (.cells #[x0, x1, x2, x3, x4, x5] 74 (0, 0))) (y0 y1 y2 y3 y4 y5 : Value) : Sl b0 ((((((w.setCell ⟨g, 0, none⟩ y0).setCell ⟨g, 1, none⟩ y1).setCell ⟨g, 2, none⟩ y2).setCell ⟨g, 3, none⟩ y3).setCell ⟨g, 4, none⟩ y4).setCell ⟨g, 5, none⟩ y5) v l := by
  have b0 := blk_set hb 0 y0
  have b1 := blk_set b0 1 y1
  have b2 := blk_set b1 2 y2
  have b3 := blk_set b2 3 y3
  have b4 := blk_set b3 4 y4
  exact (((((h.put hb (by decide)).put b0 (by decide)).put b1 (by decide)).put b2 (by decide)).put b3 (by decide)).put b4 (by decide)
set_option maxRecDepth 100000 in
set_option maxHeartbeats 8000000 in
theorem rready_some (m0 m1 : Int) (A : Option Addr) (n c : Nat) (ad tk rf : Int) (l : List (Int × Bool)) (x : Int) (k : Nat) (hx : ix (l.map (·.1)) x = (k : Int)) (hk : k < n) (hy : (l.getD k (0, false)).2 = false) (w : World) (h : Rw w A n c l) :
    Calls Try.prog 34 #[rv m0 m1 A n c ad tk rf, .int .i64 x] w fun e w' => ∃ A' c', e = .returned (.tuple #[rv m0 m1 A' n c' ad tk rf, .int .i64 0]) ∧ Kd.R dd 159 w' w.heap.size (fun _ => True) (.slice A' n c') (l.eraseIdx k ++ [(x, true)]) ∧ Below w.heap.size w w' := by
  have few := h.few
  have hlen := h.len
  have H := Aside0.mk h
  have HX := Aside0.mk (And.intro hx (And.intro hk hy))
  have hq : (l.eraseIdx k ++ [(x, true)]).length = n := by rw [List.length_append, List.length_eraseIdx, if_pos (by omega), hlen]; simp; omega
  have HQ := Aside0.mk hq
  unfold rv
  have c0 : decide ((k : Int) < 0) = false := decide_eq_false (by omega)
  have c1 : decide ((k : Int) < (n : Int)) = true := decide_eq_true (by omega)
  have c2 : decide (k < n) = true := decide_eq_true hk
  have c3 : (k < n) = True := eq_true hk
  have c4 : ((k : Int) < (n : Int)) = True := eq_true (by omega)
  obtain ⟨ad2, rfl, -, -⟩ := Ones.of_C h.C k (by omega)
  clear h hx hk hy hq hlen
  go_enter Try.func34, Try.ntmps34
  go_upto_region 1 with (fail)
  obtain ⟨hb1, hb2, hB⟩ := boxed w (.cells #[.int .i64 m0, .int .i64 m1, .slice (some ad2) n c, .int .i64 ad, .int .i64 tk, .int .i64 rf] 74) (.cells #[.int .i64 0, .int .i64 0, .slice none 0 0, .int .i64 0, .int .i64 0, .int .i64 0] 74)
  generalize (w.alloc (.cells #[.int .i64 m0, .int .i64 m1, .slice (some ad2) n c, .int .i64 ad, .int .i64 tk, .int .i64 rf] 74)).alloc (.cells #[.int .i64 0, .int .i64 0, .slice none 0 0, .int .i64 0, .int .i64 0, .int .i64 0] 74) = w1 at hb1 hb2 hB ⊢
  have HB := Aside0.mk hB
  have H1 := Aside0.mk (H.out.below hB)
  obtain ⟨k1, hk1⟩ : ∃ k1, k1 = w.heap.size + 1 := ⟨_, rfl⟩
  rw [← hk1] at hb2 ⊢
  obtain ⟨g, hg⟩ : ∃ g, w.heap.size = g := ⟨_, rfl⟩
  rw [hg] at hb1 ⊢
  have HG := Aside0.mk (And.intro hg hk1)
  have HP1 := Aside0.mk hb1
  have HP2 := Aside0.mk hb2
  obtain ⟨p0, p1, p2, p3, p4, p5, -⟩ := six hb1
  clear hB hb1 hb2 hg hk1
  go_upto_region 2 with (go_at_call 81; refine (place_calls m0 m1 (some ad2) n c ad tk rf l H1.out.len H1.out.few x w1 (Ones.of_C H1.out.C)).mono ?_; rintro e w2 ⟨rfl, hB⟩; rw [HX.out.1]; replace HP1 := Aside0.mk (blk_below HP1.out hB); replace HP2 := Aside0.mk (blk_below HP2.out hB); replace H1 := Aside0.mk (H1.out.below hB); replace HB := Aside0.mk (below_step HB.out hB); clear hB p0 p1 p2 p3 p4 p5; obtain ⟨p0, p1, p2, p3, p4, p5, s0, s1, s2, s3, s4, s5⟩ := six HP1.out)
  obtain ⟨ad3, e3, -, hz⟩ := (Ones.of_C H1.out.C) k (by have := HX.out.2.1; have := H.out.len; omega)
  cases e3
  rw [HX.out.2.2] at hz
  go_upto_region 5 with (go_at_call 36; refine (rdrop_some m0 m1 (some ad2) n c ad tk rf l x k HX.out.1 HX.out.2.1 w2 H1.out).mono ?_; rintro e w3 ⟨A3, c3, rfl, hR, hB⟩; have HR := Aside0.mk (Kd.R_lower hR HB.out.size); replace HP1 := Aside0.mk (blk_below HP1.out hB); replace HP2 := Aside0.mk (blk_below HP2.out hB); replace HB := Aside0.mk (below_step HB.out hB); unfold rv; clear hR hB p0 p1 p2 p3 p4 p5 s0 s1 s2 s3 s4 s5 hz; obtain ⟨p0, p1, p2, p3, p4, p5, s0, s1, s2, s3, s4, s5⟩ := six HP1.out)
  have hgle : w.heap.size ≤ g := by have := HG.out; omega
  have hgk : k1 ≠ g := by have := HG.out; omega
  replace HR := Aside0.mk (dd_six HR.out HP1.out (.int .i64 m0) (.int .i64 m1) (.slice A3 (n - 1) c3) (.int .i64 ad) (.int .i64 tk) (.int .i64 rf))
  replace HP2 := Aside0.mk (six_far HP2.out hgk (.int .i64 m0) (.int .i64 m1) (.slice A3 (n - 1) c3) (.int .i64 ad) (.int .i64 tk) (.int .i64 rf))
  replace HP1 := Aside0.mk (six_put HP1.out (.int .i64 m0) (.int .i64 m1) (.slice A3 (n - 1) c3) (.int .i64 ad) (.int .i64 tk) (.int .i64 rf))
  replace HB := Aside0.mk (six_b HB.out hgle (.int .i64 m0) (.int .i64 m1) (.slice A3 (n - 1) c3) (.int .i64 ad) (.int .i64 tk) (.int .i64 rf))
  have HK := Aside0.mk (And.intro hgle hgk)
  clear p0 p1 p2 p3 p4 p5 s0 s1 s2 s3 s4 s5 hgle hgk
  generalize (((((w3.setCell ⟨g, 0, none⟩ (.int .i64 m0)).setCell ⟨g, 1, none⟩ (.int .i64 m1)).setCell ⟨g, 2, none⟩ (.slice A3 (n - 1) c3)).setCell ⟨g, 3, none⟩ (.int .i64 ad)).setCell ⟨g, 4, none⟩ (.int .i64 tk)).setCell ⟨g, 5, none⟩ (.int .i64 rf) = w4 at HR HP1 HP2 HB ⊢
  obtain ⟨p0, p1, p2, p3, p4, p5, s0, s1, s2, s3, s4, s5⟩ := six HP1.out
  go_upto_region 6 with ((with_reducible refine gate_builtin (b := .append) (xs := #[.tmp 28, .tmp 31]) rfl ?_); refine Kd.R_append dd (w0 := w) w.heap.size rfl (.tmp 28) (.tmp 31) 72 159 (.agg #[.int .i64 0, .bool false]) 16 rfl Try.underlying72 info159 rfl (by decide) (by decide) (.slice A3 (n - 1) c3) (l.eraseIdx k) (x, true) [.int .i64 x, .bool true] (fun _ => True) (fun _ => False) rfl rfl (dd_M _ _ _ (x, true)) (fun _ h => h.elim) (fun _ _ => trivial) HR.out HB.out HB.out.size ?hl ?_; (case hl => have := H.out.few; have := H.out.len; rw [List.length_eraseIdx]; split <;> omega); intro v5 w5 hR hB hG hO; obtain ⟨A5, c5, rfl⟩ := Kd.R_slice hR; rw [HQ.out] at hR hO ⊢; have hn1 := Kd.R_ne HR.out HP1.out (show (159 : Nat) ≠ 74 by decide); have hn2 := Kd.R_ne HR.out HP2.out (show (159 : Nat) ≠ 74 by decide); replace HP1 := Aside0.mk (blk_grown HP1.out hG hn1); replace HP2 := Aside0.mk (blk_grown HP2.out hG hn2); replace HR := Aside0.mk hR; replace HB := Aside0.mk hB; clear hR hB hG hO hn1 hn2 p0 p1 p2 p3 p4 p5 s0 s1 s2 s3 s4 s5; obtain ⟨p0, p1, p2, p3, p4, p5, s0, s1, s2, s3, s4, s5⟩ := six HP1.out)
  replace HR := Aside0.mk (dd_one (i := 2) (u := .slice A5 n c5) HR.out HP1.out)
  replace HP2 := Aside0.mk (blk_far HP2.out (p := ⟨g, 2, none⟩) HK.out.2 (.slice A5 n c5))
  replace HP1 := Aside0.mk (blk_put HP1.out 2 (.slice A5 n c5) rfl)
  replace HB := Aside0.mk (bput (i := 2) (u := .slice A5 n c5) HB.out HK.out.1)
  clear p0 p1 p2 p3 p4 p5 s0 s1 s2 s3 s4 s5
  generalize w5.setCell ⟨g, 2, none⟩ (.slice A5 n c5) = w6 at HR HP1 HP2 HB ⊢
  obtain ⟨p0, p1, p2, p3, p4, p5, -⟩ := six HP1.out
  obtain ⟨r0, r1, r2, r3, r4, r5, s0, s1, s2, s3, s4, s5⟩ := six HP2.out
  go_wp2
  have hw := HP2.out
  have hk : w.heap.size ≤ k1 := by have := HG.out; omega
  refine bodyPost_ret (results_ct rfl _ _ k1 74 #[.int .i64 m0, .int .i64 m1, .slice A5 n c5, .int .i64 ad, .int .i64 tk, .int .i64 rf] (0, 0) _ rfl (six_put hw _ _ _ _ _ _) Try.underlying74 rfl (by kernel_rfl)) rfl ?_
  exact ⟨A5, c5, rfl, dd_six HR.out hw _ _ _ _ _ _, bput (bput (bput (bput (bput (bput HB.out hk) hk) hk) hk) hk) hk⟩
set_option maxRecDepth 100000 in
set_option maxHeartbeats 8000000 in
theorem rtake_some (m0 m1 : Int) (A : Option Addr) (n c : Nat) (ad tk rf : Int) (l : List (Int × Bool)) (x : Int) (xs : List Int) (k : Nat) (hi : idsF l true n = x :: xs) (hx : ix (l.map (·.1)) x = (k : Int)) (hk : k < n) (t0 : 0 ≤ tk) (t1 : tk ≤ 1000000) (w : World) (h : Rw w A n c l) :
    Calls Try.prog 38 #[rv m0 m1 A n c ad tk rf] w fun e w' => ∃ A' c', e = .returned (.tuple #[rv m0 m1 A' (n - 1) c' ad (tk + 1) rf, .int .i64 x, .bool true]) ∧ Kd.R dd 159 w' w.heap.size (fun _ => True) (.slice A' (n - 1) c') (l.eraseIdx k) ∧ Below w.heap.size w w' := by
  have few := h.few
  have hlen := h.len
  have H := Aside0.mk h
  have HX := Aside0.mk (And.intro hi (And.intro hx hk))
  have e1 : IntKind.i64.wrap (tk + 1) = tk + 1 := wid _ (by omega) (by omega)
  obtain ⟨n5, hn5⟩ : ∃ n5, (x :: xs).length = n5 := ⟨_, rfl⟩
  have hn6 : n5 = xs.length + 1 := by rw [← hn5]; simp
  have d1 : ((n5 : Int) == 0) = false := beq_eq_false_iff_ne.2 (by omega)
  have d2 : (n5 == 0) = false := beq_eq_false_iff_ne.2 (by omega)
  have d3 : ((n5 : Int) = 0) = False := eq_false (by omega)
  have d4 : (0 < n5) = True := eq_true (by omega)
  have d5 : decide (0 < n5) = true := decide_eq_true (by omega)
  have d6 : (n5 = 0) = False := eq_false (by omega)
  have HN5 := Aside0.mk hn5
  unfold rv
  clear h hi hx hk t0 t1 hn5 hn6 hlen
  go_enter Try.func38, Try.ntmps38
  go_upto_region 1 with (fail)
  obtain ⟨hb1, hb2, hB⟩ := boxed w (.cells #[.int .i64 m0, .int .i64 m1, .slice A n c, .int .i64 ad, .int .i64 tk, .int .i64 rf] 74) (.cells #[.int .i64 0, .int .i64 0, .slice none 0 0, .int .i64 0, .int .i64 0, .int .i64 0] 74)
  generalize (w.alloc (.cells #[.int .i64 m0, .int .i64 m1, .slice A n c, .int .i64 ad, .int .i64 tk, .int .i64 rf] 74)).alloc (.cells #[.int .i64 0, .int .i64 0, .slice none 0 0, .int .i64 0, .int .i64 0, .int .i64 0] 74) = w1 at hb1 hb2 hB ⊢
  have HB := Aside0.mk hB
  have H1 := Aside0.mk (H.out.below hB)
  obtain ⟨k1, hk1⟩ : ∃ k1, k1 = w.heap.size + 1 := ⟨_, rfl⟩
  rw [← hk1] at hb2 ⊢
  obtain ⟨g, hg⟩ : ∃ g, w.heap.size = g := ⟨_, rfl⟩
  rw [hg] at hb1 ⊢
  have HG := Aside0.mk (And.intro hg hk1)
  have HP1 := Aside0.mk hb1
  have HP2 := Aside0.mk hb2
  obtain ⟨p0, p1, p2, p3, p4, p5, -⟩ := six hb1
  clear hB hb1 hb2 hg hk1
  go_upto_region 4 with (go_at_call 42; refine (ids_calls m0 m1 A n c ad tk rf l H1.out.len H1.out.few true w1 (Ones.of_C H1.out.C)).mono ?_; rintro e w2 ⟨v2, rfl, hS, hB⟩; rw [HX.out.1] at hS; obtain ⟨A5, c5, rfl, -, -⟩ := hS.shape; rw [HN5.out] at hS ⊢; have HS := Aside0.mk (hS.mono (Nat.zero_le _)); replace HP1 := Aside0.mk (blk_below HP1.out hB); replace HP2 := Aside0.mk (blk_below HP2.out hB); replace H1 := Aside0.mk (H1.out.below hB); replace HB := Aside0.mk (below_step HB.out hB); clear hS hB p0 p1 p2 p3 p4 p5; obtain ⟨p0, p1, p2, p3, p4, p5, s0, s1, s2, s3, s4, s5⟩ := six HP1.out)
  obtain ⟨ad5, rfl, hz⟩ := PBackL.Sl.head HS.out
  refine start_ (n := 9) (S := fun w' => w'.heap[g]? = some (.cells #[.int .i64 m0, .int .i64 m1, .slice A n c, .int .i64 ad, .int .i64 tk, .int .i64 rf] 74 (0, 0)) ∧ w'.cell? ad5 = some (.int .i64 x)) (ds := [8]) (bb 9 0) (by kernel_rfl) rfl rfl (⟨HP1.out, hz⟩) (fun hHeld => ?_)
  have HZ := Aside0.mk (show w2.drew.cell? ad5 = _ from hz)
  replace HP1 := Aside0.mk (show w2.drew.heap[g]? = _ from HP1.out)
  replace HP2 := Aside0.mk (show w2.drew.heap[k1]? = _ from HP2.out)
  replace HB := Aside0.mk (below_drew HB.out)
  replace H1 := Aside0.mk (show Rw w2.drew A n c l from ⟨Kd.C_drew H1.out.C, H1.out.len, H1.out.cap, H1.out.few⟩)
  replace HS := Aside0.mk (show Sl 0 w2.drew _ _ from HS.out.below (below_drew (Below.refl _ _)))
  clear p0 p1 p2 p3 p4 p5 s0 s1 s2 s3 s4 s5 hz
  generalize w2.drew = w3 at HB HP1 HP2 H1 HZ HS hHeld ⊢
  refine take_ (i := 0) (N := some 13) (v := ?_) (a' := ?_) (bb 9 1) rfl rfl (by kernel_rfl) (fun _ _ _ h => h) (Or.inl ⟨by rfl, ?_⟩) hHeld ?_ ?_
  rotate_left
  · intro w' hSw
    obtain ⟨p0, p1, p2, p3, p4, p5, -⟩ := six hSw.1
    go_simp
    with_reducible rfl
  rotate_left
  · simp only [Act.put, List.setIfInBounds_toArray, List.set_cons_zero, List.set_cons_succ, i64_w, i32_w]
    rfl
  refine pure_ (i := 1) (N := some 14) (v := ?_) (a' := ?_) (bb 9 3) rfl rfl (by kernel_rfl) (fun _ _ _ h => h) (Or.inl ⟨by rfl, ?_⟩) ?_ ?_
  rotate_left
  · intro w'
    go_simp
    with_reducible rfl
  rotate_left
  · simp only [Act.put, List.setIfInBounds_toArray, List.set_cons_zero, List.set_cons_succ, i64_w, i32_w]
    rfl
  refine pure_ (i := 2) (N := some 15) (v := ?_) (a' := ?_) (bb 9 7) rfl rfl (by kernel_rfl) (fun _ _ _ h => h) (Or.inl ⟨by rfl, ?_⟩) ?_ ?_
  rotate_left
  · intro w'
    go_simp
    with_reducible rfl
  rotate_left
  · simp only [Act.put, List.setIfInBounds_toArray, List.set_cons_zero, List.set_cons_succ, i64_w, i32_w]
    rfl
  refine take_ (i := 3) (N := some 16) (v := ?_) (a' := ?_) (bb 9 15) rfl rfl (by kernel_rfl) (fun _ _ _ h => h) (Or.inl ⟨by rfl, ?_⟩) hHeld ?_ ?_
  rotate_left
  · intro w' hSw
    have hz := hSw.2
    go_simp
    with_reducible rfl
  rotate_left
  · simp only [Act.put, List.setIfInBounds_toArray, List.set_cons_zero, List.set_cons_succ, i64_w, i32_w]
    rfl
  refine one_ (i := 4) (N := some 17) (bb 9 31) rfl rfl (by kernel_rfl) (by decide) (fun K hK => ?_)
  refine goes_ Try.func36 (by kernel_rfl) rfl #[rv m0 m1 A n c ad tk rf, .int .i64 x] (by rfl) rfl rfl (by (try simp only [List.map_toArray, List.map_cons, List.map_nil]); first | done | rfl | (go_simp; done) | (go_simp; omega)) ?_
  refine Calls.mono (rdrop_some m0 m1 A n c ad tk rf l x k HX.out.2.1 HX.out.2.2 w3 H1.out) ?_
  rintro e w' ⟨A6, c6, rfl, hR, hB⟩
  refine ⟨_, rfl, ?_⟩
  have HR := Aside0.mk (Kd.R_lower hR HB.out.size)
  replace HP1 := Aside0.mk (blk_below HP1.out hB)
  replace HP2 := Aside0.mk (blk_below HP2.out hB)
  replace HS := Aside0.mk (HS.out.below hB)
  replace HZ := Aside0.mk (pw_cell_below hB HZ.out)
  replace HB := Aside0.mk (below_step HB.out hB)
  unfold rv
  clear hB hR
  refine hK.out _ _ (⟨HP1.out, HZ.out⟩) (fun hHeld => ?_)
  clear hK K
  refine norm_ (a' := ?_) ?_ ?_
  rotate_left
  · show Act.put _ (some 17) _ = _
    simp only [Act.put, List.setIfInBounds_toArray, List.set_cons_zero, List.set_cons_succ, i64_w, i32_w]
    rfl
  refine pure_ (i := 5) (N := some 12) (v := ?_) (a' := ?_) (bb 9 63) rfl rfl (by kernel_rfl) (fun _ _ _ h => h) (Or.inl ⟨by rfl, ?_⟩) ?_ ?_
  rotate_left
  · intro w'
    go_simp
    with_reducible rfl
  rotate_left
  · simp only [Act.put, List.setIfInBounds_toArray, List.set_cons_zero, List.set_cons_succ, i64_w, i32_w]
    rfl
  refine pure_ (i := 6) (N := some 18) (v := ?_) (a' := ?_) (bb 9 127) rfl rfl (by kernel_rfl) (fun _ _ _ h => h) (Or.inl ⟨by rfl, ?_⟩) ?_ ?_
  rotate_left
  · intro w'
    go_simp
    with_reducible rfl
  rotate_left
  · simp only [Act.put, List.setIfInBounds_toArray, List.set_cons_zero, List.set_cons_succ, i64_w, i32_w]
    rfl
  refine pure_ (i := 7) (N := some 19) (v := ?_) (a' := ?_) (bb 9 255) rfl rfl (by kernel_rfl) (fun _ _ _ h => h) (Or.inl ⟨by rfl, ?_⟩) ?_ ?_
  rotate_left
  · intro w'
    go_simp
    with_reducible rfl
  rotate_left
  · simp only [Act.put, List.setIfInBounds_toArray, List.set_cons_zero, List.set_cons_succ, i64_w, i32_w]
    rfl
  obtain ⟨p0, p1, p2, p3, p4, p5, s0, s1, s2, s3, s4, s5⟩ := six HP1.out
  refine last_ (i := 8) (N := none) (bb 9 511) rfl rfl (by kernel_rfl) (by decide) (fun K hK => ?_)
  refine skip_ (w1 := (((((w'.setCell ⟨g, 0, none⟩ (.int .i64 m0)).setCell ⟨g, 1, none⟩ (.int .i64 m1)).setCell ⟨g, 2, none⟩ (.slice A6 (n - 1) c6)).setCell ⟨g, 3, none⟩ (.int .i64 ad)).setCell ⟨g, 4, none⟩ (.int .i64 tk)).setCell ⟨g, 5, none⟩ (.int .i64 rf)) (by rfl) rfl (by first | (go_simp; done) | (go_simp; rfl)) ?_
  refine hK.out _ _ ?_
  clear hK K
  refine done_ (by kernel_rfl) ?_
  clear hHeld HZ
  have hgle : w.heap.size ≤ g := by have := HG.out; omega
  have hgk : k1 ≠ g := by have := HG.out; omega
  replace HR := Aside0.mk (dd_six HR.out HP1.out (.int .i64 m0) (.int .i64 m1) (.slice A6 (n - 1) c6) (.int .i64 ad) (.int .i64 tk) (.int .i64 rf))
  replace HS := Aside0.mk (sl_six HS.out HP1.out (.int .i64 m0) (.int .i64 m1) (.slice A6 (n - 1) c6) (.int .i64 ad) (.int .i64 tk) (.int .i64 rf))
  replace HP2 := Aside0.mk (six_far HP2.out hgk (.int .i64 m0) (.int .i64 m1) (.slice A6 (n - 1) c6) (.int .i64 ad) (.int .i64 tk) (.int .i64 rf))
  replace HP1 := Aside0.mk (six_put HP1.out (.int .i64 m0) (.int .i64 m1) (.slice A6 (n - 1) c6) (.int .i64 ad) (.int .i64 tk) (.int .i64 rf))
  replace HB := Aside0.mk (six_b HB.out hgle (.int .i64 m0) (.int .i64 m1) (.slice A6 (n - 1) c6) (.int .i64 ad) (.int .i64 tk) (.int .i64 rf))
  have HK := Aside0.mk (And.intro hgle hgk)
  clear p0 p1 p2 p3 p4 p5 s0 s1 s2 s3 s4 s5 hgle hgk
  generalize (((((w'.setCell ⟨g, 0, none⟩ (.int .i64 m0)).setCell ⟨g, 1, none⟩ (.int .i64 m1)).setCell ⟨g, 2, none⟩ (.slice A6 (n - 1) c6)).setCell ⟨g, 3, none⟩ (.int .i64 ad)).setCell ⟨g, 4, none⟩ (.int .i64 tk)).setCell ⟨g, 5, none⟩ (.int .i64 rf) = w5 at HR HP1 HP2 HB HS ⊢
  obtain ⟨p0, p1, p2, p3, p4, p5, s0, s1, s2, s3, s4, s5⟩ := six HP1.out
  go_upto_region 6 with (fail)
  replace HR := Aside0.mk (dd_one (i := 4) (u := .int .i64 (tk + 1)) HR.out HP1.out)
  replace HS := Aside0.mk (HS.out.put (i := 4) (u := .int .i64 (tk + 1)) HP1.out (by decide))
  replace HP2 := Aside0.mk (blk_far HP2.out (p := ⟨g, 4, none⟩) HK.out.2 (.int .i64 (tk + 1)))
  replace HP1 := Aside0.mk (blk_put HP1.out 4 (.int .i64 (tk + 1)) rfl)
  replace HB := Aside0.mk (bput (i := 4) (u := .int .i64 (tk + 1)) HB.out HK.out.1)
  clear p0 p1 p2 p3 p4 p5 s0 s1 s2 s3 s4 s5
  generalize w5.setCell ⟨g, 4, none⟩ (.int .i64 (tk + 1)) = w6 at HR HP1 HP2 HB HS ⊢
  obtain ⟨ad7, e7, hz⟩ := PBackL.Sl.head HS.out
  cases e7
  refine start_ (n := 7) (S := fun w' => w'.heap[g]? = some (.cells #[.int .i64 m0, .int .i64 m1, .slice A6 (n - 1) c6, .int .i64 ad, .int .i64 (tk + 1), .int .i64 rf] 74 (0, 0)) ∧ w'.cell? ad5 = some (.int .i64 x)) (ds := []) (bb 7 0) (by kernel_rfl) rfl rfl (⟨HP1.out, hz⟩) (fun hHeld => ?_)
  replace HR := Aside0.mk (show Kd.R dd 159 w6.drew _ _ _ _ from Kd.R_below HR.out (below_drew (Below.refl _ _)))
  replace HP1 := Aside0.mk (show w6.drew.heap[g]? = _ from HP1.out)
  replace HP2 := Aside0.mk (show w6.drew.heap[k1]? = _ from HP2.out)
  replace HB := Aside0.mk (below_drew HB.out)
  replace HS := Aside0.mk (show Sl 0 w6.drew _ _ from HS.out.below (below_drew (Below.refl _ _)))
  clear hz
  generalize w6.drew = w7 at HB HP1 HP2 HR HS hHeld ⊢
  refine take_ (i := 0) (N := some 24) (v := ?_) (a' := ?_) (bb 7 1) rfl rfl (by kernel_rfl) (fun _ _ _ h => h) (Or.inl ⟨by rfl, ?_⟩) hHeld ?_ ?_
  rotate_left
  · intro w' hSw
    obtain ⟨p0, p1, p2, p3, p4, p5, -⟩ := six hSw.1
    go_simp
    with_reducible rfl
  rotate_left
  · simp only [Act.put, List.setIfInBounds_toArray, List.set_cons_zero, List.set_cons_succ, i64_w, i32_w]
    rfl
  refine pure_ (i := 1) (N := some 25) (v := ?_) (a' := ?_) (bb 7 3) rfl rfl (by kernel_rfl) (fun _ _ _ h => h) (Or.inl ⟨by rfl, ?_⟩) ?_ ?_
  rotate_left
  · intro w'
    go_simp
    with_reducible rfl
  rotate_left
  · simp only [Act.put, List.setIfInBounds_toArray, List.set_cons_zero, List.set_cons_succ, i64_w, i32_w]
    rfl
  refine pure_ (i := 2) (N := some 26) (v := ?_) (a' := ?_) (bb 7 7) rfl rfl (by kernel_rfl) (fun _ _ _ h => h) (Or.inl ⟨by rfl, ?_⟩) ?_ ?_
  rotate_left
  · intro w'
    go_simp
    with_reducible rfl
  rotate_left
  · simp only [Act.put, List.setIfInBounds_toArray, List.set_cons_zero, List.set_cons_succ, i64_w, i32_w]
    rfl
  refine take_ (i := 3) (N := some 27) (v := ?_) (a' := ?_) (bb 7 15) rfl rfl (by kernel_rfl) (fun _ _ _ h => h) (Or.inl ⟨by rfl, ?_⟩) hHeld ?_ ?_
  rotate_left
  · intro w' hSw
    have hz := hSw.2
    go_simp
    with_reducible rfl
  rotate_left
  · simp only [Act.put, List.setIfInBounds_toArray, List.set_cons_zero, List.set_cons_succ, i64_w, i32_w]
    rfl
  obtain ⟨r0, r1, r2, r3, r4, r5, s0, s1, s2, s3, s4, s5⟩ := six HP2.out
  have hgk : g ≠ k1 := by have := HG.out; omega
  have hkle : w.heap.size ≤ k1 := by have := HG.out; omega
  have hP8 := six_far HP1.out hgk (.int .i64 m0) (.int .i64 m1) (.slice A6 (n - 1) c6) (.int .i64 ad) (.int .i64 (tk + 1)) (.int .i64 rf)
  obtain ⟨ad8, e8, hz8⟩ := PBackL.Sl.head (sl_six HS.out HP2.out (.int .i64 m0) (.int .i64 m1) (.slice A6 (n - 1) c6) (.int .i64 ad) (.int .i64 (tk + 1)) (.int .i64 rf))
  cases e8
  have HP8 := Aside0.mk (And.intro hP8 hz8)
  have HR8 := Aside0.mk (And.intro (dd_six HR.out HP2.out (.int .i64 m0) (.int .i64 m1) (.slice A6 (n - 1) c6) (.int .i64 ad) (.int .i64 (tk + 1)) (.int .i64 rf)) (And.intro (six_put HP2.out (.int .i64 m0) (.int .i64 m1) (.slice A6 (n - 1) c6) (.int .i64 ad) (.int .i64 (tk + 1)) (.int .i64 rf)) (six_b HB.out hkle (.int .i64 m0) (.int .i64 m1) (.slice A6 (n - 1) c6) (.int .i64 ad) (.int .i64 (tk + 1)) (.int .i64 rf))))
  clear hP8 hz8 hgk hkle
  refine one_ (i := 4) (N := none) (bb 7 31) rfl rfl (by kernel_rfl) (by decide) (fun K hK => ?_)
  refine skip_ (w1 := (((((w7.setCell ⟨k1, 0, none⟩ (.int .i64 m0)).setCell ⟨k1, 1, none⟩ (.int .i64 m1)).setCell ⟨k1, 2, none⟩ (.slice A6 (n - 1) c6)).setCell ⟨k1, 3, none⟩ (.int .i64 ad)).setCell ⟨k1, 4, none⟩ (.int .i64 (tk + 1))).setCell ⟨k1, 5, none⟩ (.int .i64 rf)) (by rfl) rfl (by first | (go_simp; done) | (go_simp; rfl)) ?_
  refine hK.out _ _ HP8.out (fun hHeld => ?_)
  clear hK K
  refine pure_ (i := 5) (N := some 3) (v := ?_) (a' := ?_) (bb 7 63) rfl rfl (by kernel_rfl) (fun _ _ _ h => h) (Or.inl ⟨by rfl, ?_⟩) ?_ ?_
  rotate_left
  · intro w'
    go_simp
    with_reducible rfl
  rotate_left
  · simp only [Act.put, List.setIfInBounds_toArray, List.set_cons_zero, List.set_cons_succ, i64_w, i32_w]
    rfl
  refine pure_ (i := 6) (N := some 4) (v := ?_) (a' := ?_) (bb 7 127) rfl rfl (by kernel_rfl) (fun _ _ _ h => h) (Or.inl ⟨by rfl, ?_⟩) ?_ ?_
  rotate_left
  · intro w'
    go_simp
    with_reducible rfl
  rotate_left
  · simp only [Act.put, List.setIfInBounds_toArray, List.set_cons_zero, List.set_cons_succ, i64_w, i32_w]
    rfl
  refine done_ (by kernel_rfl) ?_
  clear hHeld r0 r1 r2 r3 r4 r5 s0 s1 s2 s3 s4 s5 HP8
  generalize (((((w7.setCell ⟨k1, 0, none⟩ (.int .i64 m0)).setCell ⟨k1, 1, none⟩ (.int .i64 m1)).setCell ⟨k1, 2, none⟩ (.slice A6 (n - 1) c6)).setCell ⟨k1, 3, none⟩ (.int .i64 ad)).setCell ⟨k1, 4, none⟩ (.int .i64 (tk + 1))).setCell ⟨k1, 5, none⟩ (.int .i64 rf) = w8 at HR8 ⊢
  go_wp2
  refine bodyPost_ret (results_ctt rfl _ _ k1 74 #[.int .i64 m0, .int .i64 m1, .slice A6 (n - 1) c6, .int .i64 ad, .int .i64 (tk + 1), .int .i64 rf] (0, 0) _ rfl HR8.out.2.1 Try.underlying74 rfl (by kernel_rfl)) rfl ?_
  exact ⟨A6, c6, rfl, HR8.out.1, HR8.out.2.2⟩
end Go.Proofs.Ytimgfdkndlbfbaa.HBkR
