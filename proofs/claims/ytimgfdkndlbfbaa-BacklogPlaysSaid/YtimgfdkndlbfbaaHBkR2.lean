/- The reference of backlog, by hand: Drop and Ready, where the number is not there. Conditions: each theorem's own. -/
import Derived.Test.YtimgfdkndlbfbaaHBkR
namespace Go.Proofs.Ytimgfdkndlbfbaa.HBkR
open Go.RowKit Go.Proofs.YtimgfdkndlbfbaaW.PrintWords Go.Proofs.YtimgfdkndlbfbaaW.PrintLast Go.Proofs.YtimgfdkndlbfbaaW.PrintMore Go.Proofs.Ytimgfdkndlbfbaa.HBk
set_option linter.unusedVariables false
set_option linter.unusedSimpArgs false
theorem boxed (w : World) (o1 o2 : Obj) : ((w.alloc o1).alloc o2).heap[w.heap.size]? = some o1 ∧ ((w.alloc o1).alloc o2).heap[w.heap.size + 1]? = some o2 ∧ Below w.heap.size w ((w.alloc o1).alloc o2) := by
  have h1 := below_alloc (Below.refl w.heap.size w) o1
  have e : (w.alloc o1).heap.size = w.heap.size + 1 := by simp
  refine ⟨blk_below (blk_new w o1) (below_alloc (Below.refl _ _) o2), ?_, below_step h1 (below_alloc (Below.refl _ _) o2)⟩
  have := blk_new (w.alloc o1) o2
  rwa [e] at this
theorem six {w : World} {g : Nat} {m0 m1 ad tk rf : Int} {u : Value} (h : w.heap[g]? = some (.cells #[.int .i64 m0, .int .i64 m1, u, .int .i64 ad, .int .i64 tk, .int .i64 rf] 74 (0, 0))) : w.cell? ⟨g, 0, none⟩ = some (.int .i64 m0) ∧ w.cell? ⟨g, 1, none⟩ = some (.int .i64 m1) ∧ w.cell? ⟨g, 2, none⟩ = some u ∧ w.cell? ⟨g, 3, none⟩ = some (.int .i64 ad) ∧ w.cell? ⟨g, 4, none⟩ = some (.int .i64 tk) ∧ w.cell? ⟨g, 5, none⟩ = some (.int .i64 rf) ∧ w.frozen? ⟨g, 0, none⟩ = false ∧ w.frozen? ⟨g, 1, none⟩ = false ∧ w.frozen? ⟨g, 2, none⟩ = false ∧ w.frozen? ⟨g, 3, none⟩ = false ∧ w.frozen? ⟨g, 4, none⟩ = false ∧ w.frozen? ⟨g, 5, none⟩ = false :=
  ⟨(blk_cell h 0).trans rfl, (blk_cell h 1).trans rfl, (blk_cell h 2).trans rfl, (blk_cell h 3).trans rfl, (blk_cell h 4).trans rfl, (blk_cell h 5).trans rfl, blk_frozen h _, blk_frozen h _, blk_frozen h _, blk_frozen h _, blk_frozen h _, blk_frozen h _⟩
theorem six_put {w : World} {g : Nat} {x0 x1 x2 x3 x4 x5 : Value} (h : w.heap[g]? = some (.cells #[x0, x1, x2, x3, x4, x5] 74 (0, 0))) (y0 y1 y2 y3 y4 y5 : Value) : ((((((w.setCell ⟨g, 0, none⟩ y0).setCell ⟨g, 1, none⟩ y1).setCell ⟨g, 2, none⟩ y2).setCell ⟨g, 3, none⟩ y3).setCell ⟨g, 4, none⟩ y4).setCell ⟨g, 5, none⟩ y5).heap[g]? = some (.cells #[y0, y1, y2, y3, y4, y5] 74 (0, 0)) :=
  blk_put (blk_put (blk_put (blk_put (blk_put (blk_put h 0 _ rfl) 1 _ rfl) 2 _ rfl) 3 _ rfl) 4 _ rfl) 5 _ rfl
theorem bput {b : Nat} {a w : World} {g i : Nat} {u : Value} (h : Below b a w) (hg : b ≤ g) : Below b a (w.setCell ⟨g, i, none⟩ u) :=
  ⟨h.os, h.tape, h.output, Nat.le_trans h.size (by simp [World.setCell]), fun k hk => (Below.heap_setCell w _ _ k (by show k ≠ g; omega)).trans (h.block k hk)⟩
set_option maxRecDepth 100000 in
set_option maxHeartbeats 4000000 in
theorem rdrop_none (m0 m1 : Int) (A : Option Addr) (n c : Nat) (ad tk rf : Int) (l : List (Int × Bool)) (hn : l.length = n) (hl : n ≤ 1000) (x : Int) (hx : x ∉ l.map (·.1)) (w : World) (h : Ones w A l) : Calls Try.prog 36 #[rv m0 m1 A n c ad tk rf, .int .i64 x] w fun e w' => e = .returned (.tuple #[rv m0 m1 A n c ad tk rf, .bool false]) ∧ Below w.heap.size w w' := by
  have HO := Aside0.mk h
  have HN := Aside0.mk (And.intro hn (And.intro hl (show ix (l.map (·.1)) x = -1 from if_neg hx)))
  unfold rv
  clear h hn hl hx
  go_enter Try.func36, Try.ntmps36
  go_upto_region 1 with (fail)
  obtain ⟨hb1, hb2, hB⟩ := boxed w (.cells #[.int .i64 m0, .int .i64 m1, .slice A n c, .int .i64 ad, .int .i64 tk, .int .i64 rf] 74) (.cells #[.int .i64 0, .int .i64 0, .slice none 0 0, .int .i64 0, .int .i64 0, .int .i64 0] 74)
  generalize (w.alloc (.cells #[.int .i64 m0, .int .i64 m1, .slice A n c, .int .i64 ad, .int .i64 tk, .int .i64 rf] 74)).alloc (.cells #[.int .i64 0, .int .i64 0, .slice none 0 0, .int .i64 0, .int .i64 0, .int .i64 0] 74) = w1 at hb1 hb2 hB ⊢
  have HB := Aside0.mk hB
  have HP := Aside0.mk (place_calls m0 m1 A n c ad tk rf l HN.out.1 HN.out.2.1 x w1 (HO.out.below hB))
  obtain ⟨k1, hk1⟩ : ∃ k1, k1 = w.heap.size + 1 := ⟨_, rfl⟩
  rw [← hk1] at hb2 ⊢
  generalize hg : w.heap.size = g at hb1 ⊢
  have HG := Aside0.mk (And.intro hb1 (And.intro hb2 (And.intro hg hk1)))
  obtain ⟨p0, p1, p2, p3, p4, p5, -⟩ := six hb1
  clear hB hb1 hb2 hg hk1
  go_wp2_with (go_at_call 81; refine HP.out.mono ?_; rintro e w2 ⟨rfl, hB⟩; rw [HN.out.2.2]; obtain ⟨q0, q1, q2, q3, q4, q5, -⟩ := six (blk_below HG.out.1 hB); obtain ⟨r0, r1, r2, r3, r4, r5, s0, s1, s2, s3, s4, s5⟩ := six (blk_below HG.out.2.1 hB); have HW := Aside0.mk (blk_below HG.out.2.1 hB); replace HB := Aside0.mk (below_step HB.out hB); clear hB p0 p1 p2 p3 p4 p5)
  have hw := HW.out
  refine bodyPost_ret (results_ct rfl _ _ k1 74 #[.int .i64 m0, .int .i64 m1, .slice A n c, .int .i64 ad, .int .i64 tk, .int .i64 rf] (0, 0) _ rfl (six_put hw _ _ _ _ _ _) Try.underlying74 rfl (by kernel_rfl)) rfl ?_
  refine ⟨rfl, ?_⟩
  have hk : w.heap.size ≤ k1 := by have := HG.out.2.2; omega
  exact bput (bput (bput (bput (bput (bput HB.out hk) hk) hk) hk) hk) hk
set_option maxRecDepth 100000 in
set_option maxHeartbeats 4000000 in
theorem rready_none (m0 m1 : Int) (A : Option Addr) (n c : Nat) (ad tk rf : Int) (l : List (Int × Bool)) (hn : l.length = n) (hl : n ≤ 1000) (x : Int) (hx : x ∉ l.map (·.1)) (w : World) (h : Ones w A l) : Calls Try.prog 34 #[rv m0 m1 A n c ad tk rf, .int .i64 x] w fun e w' => e = .returned (.tuple #[rv m0 m1 A n c ad tk rf, .int .i64 6]) ∧ Below w.heap.size w w' := by
  have HO := Aside0.mk h
  have HN := Aside0.mk (And.intro hn (And.intro hl (show ix (l.map (·.1)) x = -1 from if_neg hx)))
  unfold rv
  clear h hn hl hx
  go_enter Try.func34, Try.ntmps34
  go_upto_region 1 with (fail)
  obtain ⟨hb1, hb2, hB⟩ := boxed w (.cells #[.int .i64 m0, .int .i64 m1, .slice A n c, .int .i64 ad, .int .i64 tk, .int .i64 rf] 74) (.cells #[.int .i64 0, .int .i64 0, .slice none 0 0, .int .i64 0, .int .i64 0, .int .i64 0] 74)
  generalize (w.alloc (.cells #[.int .i64 m0, .int .i64 m1, .slice A n c, .int .i64 ad, .int .i64 tk, .int .i64 rf] 74)).alloc (.cells #[.int .i64 0, .int .i64 0, .slice none 0 0, .int .i64 0, .int .i64 0, .int .i64 0] 74) = w1 at hb1 hb2 hB ⊢
  have HB := Aside0.mk hB
  have HP := Aside0.mk (place_calls m0 m1 A n c ad tk rf l HN.out.1 HN.out.2.1 x w1 (HO.out.below hB))
  obtain ⟨k1, hk1⟩ : ∃ k1, k1 = w.heap.size + 1 := ⟨_, rfl⟩
  rw [← hk1] at hb2 ⊢
  generalize hg : w.heap.size = g at hb1 ⊢
  have HG := Aside0.mk (And.intro hb1 (And.intro hb2 (And.intro hg hk1)))
  obtain ⟨p0, p1, p2, p3, p4, p5, -⟩ := six hb1
  clear hB hb1 hb2 hg hk1
  go_wp2_with (go_at_call 81; refine HP.out.mono ?_; rintro e w2 ⟨rfl, hB⟩; rw [HN.out.2.2]; obtain ⟨q0, q1, q2, q3, q4, q5, -⟩ := six (blk_below HG.out.1 hB); obtain ⟨r0, r1, r2, r3, r4, r5, s0, s1, s2, s3, s4, s5⟩ := six (blk_below HG.out.2.1 hB); have HW := Aside0.mk (blk_below HG.out.2.1 hB); replace HB := Aside0.mk (below_step HB.out hB); clear hB p0 p1 p2 p3 p4 p5)
  have hw := HW.out
  refine bodyPost_ret (results_ct rfl _ _ k1 74 #[.int .i64 m0, .int .i64 m1, .slice A n c, .int .i64 ad, .int .i64 tk, .int .i64 rf] (0, 0) _ rfl (six_put hw _ _ _ _ _ _) Try.underlying74 rfl (by kernel_rfl)) rfl ?_
  refine ⟨rfl, ?_⟩
  have hk : w.heap.size ≤ k1 := by have := HG.out.2.2; omega
  exact bput (bput (bput (bput (bput (bput HB.out hk) hk) hk) hk) hk) hk
set_option maxRecDepth 100000 in
set_option maxHeartbeats 4000000 in
theorem rready_twice (m0 m1 : Int) (A : Option Addr) (n c : Nat) (ad tk rf : Int) (l : List (Int × Bool)) (hn : l.length = n) (hl : n ≤ 1000) (x : Int) (k : Nat) (hx : ix (l.map (·.1)) x = (k : Int)) (hk : k < n) (hy : (l.getD k (0, false)).2 = true) (w : World) (h : Ones w A l) : Calls Try.prog 34 #[rv m0 m1 A n c ad tk rf, .int .i64 x] w fun e w' => e = .returned (.tuple #[rv m0 m1 A n c ad tk rf, .int .i64 6]) ∧ Below w.heap.size w w' := by
  have HO := Aside0.mk h
  have HN := Aside0.mk (And.intro hn (And.intro hl hx))
  unfold rv
  have hkn : k < l.length := by omega
  have hy2 := (h.below (Below.refl _ _)) k hkn
  have HY := Aside0.mk (And.intro hkn hy)
  have c0 : decide ((k : Int) < 0) = false := decide_eq_false (by omega)
  have c1 : decide ((k : Int) < (n : Int)) = true := decide_eq_true (by omega)
  have c2 : decide (k < n) = true := decide_eq_true hk
  have c3 : (k < n) = True := eq_true hk
  have c4 : ((k : Int) < (n : Int)) = True := eq_true (by omega)
  obtain ⟨ad2, rfl, -, -⟩ := hy2
  clear h hn hl hx hk hy hkn
  go_enter Try.func34, Try.ntmps34
  go_upto_region 1 with (fail)
  obtain ⟨hb1, hb2, hB⟩ := boxed w (.cells #[.int .i64 m0, .int .i64 m1, .slice (some ad2) n c, .int .i64 ad, .int .i64 tk, .int .i64 rf] 74) (.cells #[.int .i64 0, .int .i64 0, .slice none 0 0, .int .i64 0, .int .i64 0, .int .i64 0] 74)
  generalize (w.alloc (.cells #[.int .i64 m0, .int .i64 m1, .slice (some ad2) n c, .int .i64 ad, .int .i64 tk, .int .i64 rf] 74)).alloc (.cells #[.int .i64 0, .int .i64 0, .slice none 0 0, .int .i64 0, .int .i64 0, .int .i64 0] 74) = w1 at hb1 hb2 hB ⊢
  have HB := Aside0.mk hB
  have HP := Aside0.mk (place_calls m0 m1 (some ad2) n c ad tk rf l HN.out.1 HN.out.2.1 x w1 (HO.out.below hB))
  obtain ⟨k1, hk1⟩ : ∃ k1, k1 = w.heap.size + 1 := ⟨_, rfl⟩
  rw [← hk1] at hb2 ⊢
  generalize hg : w.heap.size = g at hb1 ⊢
  have HG := Aside0.mk (And.intro hb1 (And.intro hb2 (And.intro hg hk1)))
  obtain ⟨p0, p1, p2, p3, p4, p5, -⟩ := six hb1
  clear hB hb1 hb2 hg hk1
  go_wp2_with (go_at_call 81; refine HP.out.mono ?_; rintro e w2 ⟨rfl, hB⟩; rw [HN.out.2.2]; obtain ⟨q0, q1, q2, q3, q4, q5, -⟩ := six (blk_below HG.out.1 hB); obtain ⟨ad3, e3, -, hz⟩ := (HO.out.below (below_step HB.out hB)) k HY.out.1; cases e3; rw [HY.out.2] at hz; obtain ⟨r0, r1, r2, r3, r4, r5, s0, s1, s2, s3, s4, s5⟩ := six (blk_below HG.out.2.1 hB); have HW := Aside0.mk (blk_below HG.out.2.1 hB); replace HB := Aside0.mk (below_step HB.out hB); clear hB p0 p1 p2 p3 p4 p5)
  have hw := HW.out
  refine bodyPost_ret (results_ct rfl _ _ k1 74 #[.int .i64 m0, .int .i64 m1, .slice (some ad2) n c, .int .i64 ad, .int .i64 tk, .int .i64 rf] (0, 0) _ rfl (six_put hw _ _ _ _ _ _) Try.underlying74 rfl (by kernel_rfl)) rfl ?_
  refine ⟨rfl, ?_⟩
  have hk : w.heap.size ≤ k1 := by have := HG.out.2.2; omega
  exact bput (bput (bput (bput (bput (bput HB.out hk) hk) hk) hk) hk) hk
set_option maxRecDepth 100000 in
set_option maxHeartbeats 4000000 in
theorem rtake_none (m0 m1 : Int) (A : Option Addr) (n c : Nat) (ad tk rf : Int) (l : List (Int × Bool)) (hn : l.length = n) (hl : n ≤ 1000) (hx : idsF l true n = []) (w : World) (h : Ones w A l) : Calls Try.prog 38 #[rv m0 m1 A n c ad tk rf] w fun e w' => e = .returned (.tuple #[rv m0 m1 A n c ad tk rf, .int .i64 0, .bool false]) ∧ Below w.heap.size w w' := by
  have HO := Aside0.mk h
  have HN := Aside0.mk (And.intro hn (And.intro hl hx))
  unfold rv
  clear h hn hl hx
  go_enter Try.func38, Try.ntmps38
  go_upto_region 1 with (fail)
  obtain ⟨hb1, hb2, hB⟩ := boxed w (.cells #[.int .i64 m0, .int .i64 m1, .slice A n c, .int .i64 ad, .int .i64 tk, .int .i64 rf] 74) (.cells #[.int .i64 0, .int .i64 0, .slice none 0 0, .int .i64 0, .int .i64 0, .int .i64 0] 74)
  generalize (w.alloc (.cells #[.int .i64 m0, .int .i64 m1, .slice A n c, .int .i64 ad, .int .i64 tk, .int .i64 rf] 74)).alloc (.cells #[.int .i64 0, .int .i64 0, .slice none 0 0, .int .i64 0, .int .i64 0, .int .i64 0] 74) = w1 at hb1 hb2 hB ⊢
  have HB := Aside0.mk hB
  have HP := Aside0.mk (ids_calls m0 m1 A n c ad tk rf l HN.out.1 HN.out.2.1 true w1 (HO.out.below hB))
  obtain ⟨k1, hk1⟩ : ∃ k1, k1 = w.heap.size + 1 := ⟨_, rfl⟩
  rw [← hk1] at hb2 ⊢
  generalize hg : w.heap.size = g at hb1 ⊢
  have HG := Aside0.mk (And.intro hb1 (And.intro hb2 (And.intro hg hk1)))
  obtain ⟨p0, p1, p2, p3, p4, p5, -⟩ := six hb1
  clear hB hb1 hb2 hg hk1
  go_wp2_with (go_at_call 42; refine HP.out.mono ?_; rintro e w2 ⟨v2, rfl, hS, hB⟩; rw [HN.out.2.2] at hS; obtain ⟨A5, c5, rfl, -, -⟩ := hS.shape; clear hS; obtain ⟨q0, q1, q2, q3, q4, q5, -⟩ := six (blk_below HG.out.1 hB); obtain ⟨r0, r1, r2, r3, r4, r5, s0, s1, s2, s3, s4, s5⟩ := six (blk_below HG.out.2.1 hB); have HW := Aside0.mk (blk_below HG.out.2.1 hB); replace HB := Aside0.mk (below_step HB.out hB); clear hB p0 p1 p2 p3 p4 p5)
  have hw := HW.out
  refine bodyPost_ret (results_ctt rfl _ _ k1 74 #[.int .i64 m0, .int .i64 m1, .slice A n c, .int .i64 ad, .int .i64 tk, .int .i64 rf] (0, 0) _ rfl (six_put hw _ _ _ _ _ _) Try.underlying74 rfl (by kernel_rfl)) rfl ?_
  refine ⟨rfl, ?_⟩
  have hk : w.heap.size ≤ k1 := by have := HG.out.2.2; omega
  exact bput (bput (bput (bput (bput (bput HB.out hk) hk) hk) hk) hk) hk
set_option maxRecDepth 100000 in
set_option maxHeartbeats 4000000 in
theorem radd_same (m0 m1 : Int) (A : Option Addr) (n c : Nat) (ad tk rf : Int) (l : List (Int × Bool)) (hn : l.length = n) (hl : n ≤ 1000) (x : Int) (k : Nat) (hx : ix (l.map (·.1)) x = (k : Int)) (w : World) (h : Ones w A l) : Calls Try.prog 32 #[rv m0 m1 A n c ad tk rf, .int .i64 x] w fun e w' => e = .returned (.tuple #[rv m0 m1 A n c ad tk rf, .int .i64 140]) ∧ Below w.heap.size w w' := by
  have HO := Aside0.mk h
  have HN := Aside0.mk (And.intro hn (And.intro hl hx))
  unfold rv
  have c0 : decide (0 ≤ (k : Int)) = true := decide_eq_true (by omega)
  clear h hn hl hx
  go_enter Try.func32, Try.ntmps32
  go_upto_region 1 with (fail)
  obtain ⟨hb1, hb2, hB⟩ := boxed w (.cells #[.int .i64 m0, .int .i64 m1, .slice A n c, .int .i64 ad, .int .i64 tk, .int .i64 rf] 74) (.cells #[.int .i64 0, .int .i64 0, .slice none 0 0, .int .i64 0, .int .i64 0, .int .i64 0] 74)
  generalize (w.alloc (.cells #[.int .i64 m0, .int .i64 m1, .slice A n c, .int .i64 ad, .int .i64 tk, .int .i64 rf] 74)).alloc (.cells #[.int .i64 0, .int .i64 0, .slice none 0 0, .int .i64 0, .int .i64 0, .int .i64 0] 74) = w1 at hb1 hb2 hB ⊢
  have HB := Aside0.mk hB
  have HP := Aside0.mk (place_calls m0 m1 A n c ad tk rf l HN.out.1 HN.out.2.1 x w1 (HO.out.below hB))
  obtain ⟨k1, hk1⟩ : ∃ k1, k1 = w.heap.size + 1 := ⟨_, rfl⟩
  rw [← hk1] at hb2 ⊢
  generalize hg : w.heap.size = g at hb1 ⊢
  have HG := Aside0.mk (And.intro hb1 (And.intro hb2 (And.intro hg hk1)))
  obtain ⟨p0, p1, p2, p3, p4, p5, -⟩ := six hb1
  clear hB hb1 hb2 hg hk1
  go_wp2_with (go_at_call 81; refine HP.out.mono ?_; rintro e w2 ⟨rfl, hB⟩; rw [HN.out.2.2]; obtain ⟨q0, q1, q2, q3, q4, q5, -⟩ := six (blk_below HG.out.1 hB); obtain ⟨r0, r1, r2, r3, r4, r5, s0, s1, s2, s3, s4, s5⟩ := six (blk_below HG.out.2.1 hB); have HW := Aside0.mk (blk_below HG.out.2.1 hB); replace HB := Aside0.mk (below_step HB.out hB); clear hB p0 p1 p2 p3 p4 p5)
  have hw := HW.out
  refine bodyPost_ret (results_ct rfl _ _ k1 74 #[.int .i64 m0, .int .i64 m1, .slice A n c, .int .i64 ad, .int .i64 tk, .int .i64 rf] (0, 0) _ rfl (six_put hw _ _ _ _ _ _) Try.underlying74 rfl (by kernel_rfl)) rfl ?_
  refine ⟨rfl, ?_⟩
  have hk : w.heap.size ≤ k1 := by have := HG.out.2.2; omega
  exact bput (bput (bput (bput (bput (bput HB.out hk) hk) hk) hk) hk) hk
end Go.Proofs.Ytimgfdkndlbfbaa.HBkR
