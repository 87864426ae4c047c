/- The reference of backlog, by hand: rows of pairs by kind (dd), Drop where the number is there. Conditions: each theorem's own. -/
import Derived.Test.YtimgfdkndlbfbaaHBkR2
import Derived.Test.YtimgfdkndlbfbaaHReg
namespace Go.Proofs.Ytimgfdkndlbfbaa.HBkR
open Go.RowKit Go.Proofs.YtimgfdkndlbfbaaW.PrintWords Go.Proofs.YtimgfdkndlbfbaaW.PrintLast Go.Proofs.YtimgfdkndlbfbaaW.PrintMore Go.Proofs.Ytimgfdkndlbfbaa.HBk Go.Proofs.Ytimgfdkndlbfbaa.HReg
set_option linter.unusedVariables false
set_option linter.unusedSimpArgs false
/-- A number, and whether it is ready. -/
def dd : Kd (Int × Bool) := Kd.pair (Kd.int .i64) Kd.bool
theorem dd_K {w : World} {x : Int × Bool} {cs : List Value} (h : dd.K w x cs) : cs = [.int .i64 x.1, .bool x.2] := by
  obtain ⟨c0, c1, rfl, h0, h1⟩ := h
  have h0' : c0 = [.int .i64 x.1] := h0
  have h1' : c1 = [.bool x.2] := h1
  rw [h0', h1']
  rfl
theorem dd_M (w : World) (base : Nat) (ok : Nat → Prop) (x : Int × Bool) : dd.M w base ok x [.int .i64 x.1, .bool x.2] := ⟨[.int .i64 x.1], [.bool x.2], rfl, rfl, rfl⟩
theorem dd_KM {w : World} (base : Nat) (ok : Nat → Prop) (x : Int × Bool) (cs : List Value) (h : dd.K w x cs) : dd.M w base ok x cs := by
  rw [dd_K h]
  exact dd_M _ _ _ _
theorem Ones.of_C {w : World} {A : Option Addr} {n : Nat} {l : List (Int × Bool)} (h : Kd.C dd w A n l) : Ones w A l := fun i hi => by
  obtain ⟨ad, c, e, hl, hk, hc⟩ := Kd.C_get h (0, false) (i : Int) (by omega) (by have := h.1; omega)
  rw [Int.toNat_natCast] at hk hc
  have hc2 := dd_K hk
  subst hc2
  have h0 := hc 0 _ rfl
  have h1 := hc 1 _ rfl
  refine ⟨ad, e, h0, ?_⟩
  rw [show (⟨(ad.add (i * 2)).block, (ad.add (i * 2)).off + 1, none⟩ : Addr) = ad.add (i * dd.sz + 1) by
    show _ = ad.add (i * 2 + 1)
    unfold Addr.add
    by_cases h : i * 2 = 0 <;> simp [h, Nat.add_assoc]]
  exact h1
theorem info159 : (Try.prog.info? 159).map (fun i => (i.zero, i.size, i.bytes)) = some (some (.agg #[.int .i64 0, .bool false]), 2, 16) := by kernel_rfl
theorem below_of_none {w w1 : World} (h : w.grownBy w1 none) : Below w.heap.size w w1 := ⟨h.os, h.tape, h.output, h.size, fun k hk => h.block k hk (by simp)⟩
/-- A row of pairs behind six stores into a block of another type. -/
theorem dd_six {w : World} {base g : Nat} {v : Value} {l : List (Int × Bool)} {x0 x1 x2 x3 x4 x5 : Value} (h : Kd.R dd 159 w base (fun _ => True) v l) (hb : w.heap[g]? = some (.cells #[x0, x1, x2, x3, x4, x5] 74 (0, 0))) (y0 y1 y2 y3 y4 y5 : Value) : Kd.R dd 159 ((((((w.setCell ⟨g, 0, none⟩ y0).setCell ⟨g, 1, none⟩ y1).setCell ⟨g, 2, none⟩ y2).setCell ⟨g, 3, none⟩ y3).setCell ⟨g, 4, none⟩ y4).setCell ⟨g, 5, none⟩ y5) base (fun _ => True) v l := by
  have ht : ∀ q, q ∈ 159 :: dd.E → q ≠ 74 := by
    intro q hq
    have : q = 159 := by simpa [dd, Kd.pair, Kd.int, Kd.bool, Kd.scalar] using hq
    omega
  have b0 := blk_set hb 0 y0
  have b1 := blk_set b0 1 y1
  have b2 := blk_set b1 2 y2
  have b3 := blk_set b2 3 y3
  have b4 := blk_set b3 4 y4
  exact Kd.R_set (Kd.R_set (Kd.R_set (Kd.R_set (Kd.R_set (Kd.R_set h hb ht 0 y0) b0 ht 1 y1) b1 ht 2 y2) b2 ht 3 y3) b3 ht 4 y4) b4 ht 5 y5
theorem dd_one {w : World} {base g i : Nat} {v u : Value} {l : List (Int × Bool)} {cs : Array Value} (h : Kd.R dd 159 w base (fun _ => True) v l) (hb : w.heap[g]? = some (.cells cs 74 (0, 0))) : Kd.R dd 159 (w.setCell ⟨g, i, none⟩ u) base (fun _ => True) v l :=
  Kd.R_set h hb (by
    intro q hq
    have : q = 159 := by simpa [dd, Kd.pair, Kd.int, Kd.bool, Kd.scalar] using hq
    omega) i u
theorem split_at (l : List (Int × Bool)) (k : Nat) : (([] : List (Int × Bool)) ++ l.take k) ++ l.drop (k + 1) = l.eraseIdx k := by rw [List.nil_append, List.eraseIdx_eq_take_drop_succ]
/-- What is known of a row: it is read, its length, its room. -/
structure Rw (w : World) (A : Option Addr) (n c : Nat) (l : List (Int × Bool)) : Prop where
  C : Kd.C dd w A n l
  len : l.length = n
  cap : n ≤ c
  few : n ≤ 1000
theorem Rw.below {w w' : World} {A : Option Addr} {n c : Nat} {l : List (Int × Bool)} (h : Rw w A n c l) (hb : Below w.heap.size w w') : Rw w' A n c l := ⟨Kd.C_below h.C hb, h.len, h.cap, h.few⟩
set_option maxRecDepth 100000 in
set_option maxHeartbeats 8000000 in
theorem rdrop_some (m0 m1 : Int) (A : Option Addr) (n c : Nat) (ad tk rf : Int) (l : List (Int × Bool)) (x : Int) (k : Nat) (hx : ix (l.map (·.1)) x = (k : Int)) (hk : k < n) (w : World) (h : Rw w A n c l) :
    Calls Try.prog 36 #[rv m0 m1 A n c ad tk rf, .int .i64 x] w fun e w' => ∃ A' c', e = .returned (.tuple #[rv m0 m1 A' (n - 1) c' ad tk rf, .bool true]) ∧ Kd.R dd 159 w' w.heap.size (fun _ => True) (.slice A' (n - 1) c') (l.eraseIdx k) ∧ Below w.heap.size w w' := by
  have few := h.few
  have hlen := h.len
  have H := Aside0.mk h
  have HX := Aside0.mk (And.intro hx hk)
  unfold rv
  have c0 : decide ((k : Int) < 0) = false := decide_eq_false (by omega)
  have e1 : IntKind.i64.wrap ((k : Int) + 1) = (k : Int) + 1 := wid _ (by omega) (by omega)
  have i1 : (0 : Int) ≤ (k : Int) := by omega
  have i2 : (0 : Int) ≤ (k : Int) + 1 := by omega
  obtain ⟨i, hi, hz0, hz1, hz2⟩ := info_parts info159
  have hcut1 := cut_to (P := Try.prog) 72 159 .i64 Try.underlying72 hi A n c (k : Int) (by omega) (by omega) h.cap
  have hcut2 := cut_from (P := Try.prog) 72 159 .i64 Try.underlying72 hi 2 hz1 A n c ((k : Int) + 1) (by omega) (by omega)
  have t1 : ((k : Int)).toNat = k := Int.toNat_natCast k
  have t2 : ((k : Int) + 1).toNat = k + 1 := by omega
  rw [t1] at hcut1
  rw [t2] at hcut2
  have hC2 : Kd.C dd w (if c = k + 1 then A else A.map (·.add ((k + 1) * 2))) (n - (k + 1)) (l.drop (k + 1)) := by
    have := Kd.C_drop (k := dd) (m := k + 1) (c := c) (by rw [hlen]; exact h.C) (by omega) (by rw [hlen]; exact h.cap)
    rw [List.length_drop, hlen] at this
    exact this
  have hC1 : Kd.C dd w A k (l.take k) := by
    have := Kd.C_take (k := dd) (m := k) (by rw [hlen]; exact h.C) (by omega)
    rw [List.length_take, hlen, Nat.min_eq_left (by omega)] at this
    exact this
  generalize (if c = k + 1 then A else A.map (·.add ((k + 1) * 2))) = A2 at hcut2 hC2
  have HC := Aside0.mk (And.intro hC1 hC2)
  have hq : (l.eraseIdx k).length = n - 1 := by rw [List.length_eraseIdx, if_pos (by omega), hlen]
  have HQ := Aside0.mk (And.intro hq (split_at l k))
  clear h hx hk hC1 hC2 hq hi hz0 hz1 hz2 t1 t2 hlen
  go_enter Try.func36, Try.ntmps36
  go_upto_region 1 with (fail)
  obtain ⟨hb1, hb2, hB⟩ := boxed w (.cells #[.int .i64 m0, .int .i64 m1, .slice A n c, .int .i64 ad, .int .i64 tk, .int .i64 rf] 74) (.cells #[.int .i64 0, .int .i64 0, .slice none 0 0, .int .i64 0, .int .i64 0, .int .i64 0] 74)
  generalize (w.alloc (.cells #[.int .i64 m0, .int .i64 m1, .slice A n c, .int .i64 ad, .int .i64 tk, .int .i64 rf] 74)).alloc (.cells #[.int .i64 0, .int .i64 0, .slice none 0 0, .int .i64 0, .int .i64 0, .int .i64 0] 74) = w1 at hb1 hb2 hB ⊢
  have HB := Aside0.mk hB
  have HP := Aside0.mk (place_calls m0 m1 A n c ad tk rf l H.out.len H.out.few x w1 (Ones.of_C (H.out.below hB).C))
  obtain ⟨k1, hk1⟩ : ∃ k1, k1 = w.heap.size + 1 := ⟨_, rfl⟩
  rw [← hk1] at hb2 ⊢
  generalize hg : w.heap.size = g at hb1 ⊢
  have HG := Aside0.mk (And.intro hb1 (And.intro hb2 (And.intro hg hk1)))
  obtain ⟨p0, p1, p2, p3, p4, p5, -⟩ := six hb1
  clear hB hb1 hb2 hg hk1
  go_upto_region 4 with (go_at_call 81; refine HP.out.mono ?_; rintro e w2 ⟨rfl, hB⟩; rw [HX.out.1]; have HW := Aside0.mk (And.intro (blk_below HG.out.1 hB) (blk_below HG.out.2.1 hB)); replace HB := Aside0.mk (below_step HB.out hB); clear hB p0 p1 p2 p3 p4 p5)
  refine start_ (n := 14) (S := fun w' => w'.cell? ⟨g, 2, none⟩ = some (.slice A n c)) (ds := [13]) (bb 14 0) (by kernel_rfl) rfl rfl ((blk_cell HW.out.1 2).trans rfl) (fun hHeld => ?_)
  have HP1 := Aside0.mk (show w2.drew.heap[g]? = _ from HW.out.1)
  have HP2 := Aside0.mk (show w2.drew.heap[k1]? = _ from HW.out.2)
  replace HB := Aside0.mk (below_drew HB.out)
  clear HW
  generalize w2.drew = w3 at HB HP1 HP2 hHeld ⊢
  refine pure_ (i := 1) (N := some 14) (v := ?_) (a' := ?_) (bb 14 2) rfl rfl (by kernel_rfl) (fun _ _ _ h => h) (Or.inl ⟨by rfl, ?_⟩) ?_ ?_
  rotate_left
  · intro w'
    go_simp
    with_reducible rfl
  rotate_left
  · simp only [Act.put, List.setIfInBounds_toArray, List.set_cons_zero, List.set_cons_succ, i64_w, i32_w]
    rfl
  refine take_ (i := 2) (N := some 15) (v := ?_) (a' := ?_) (bb 14 6) rfl rfl (by kernel_rfl) (fun _ _ _ h => h) (Or.inl ⟨by rfl, ?_⟩) hHeld ?_ ?_
  rotate_left
  · intro w' hSw
    go_simp
    with_reducible rfl
  rotate_left
  · simp only [Act.put, List.setIfInBounds_toArray, List.set_cons_zero, List.set_cons_succ, i64_w, i32_w]
    rfl
  refine pure_ (i := 3) (N := some 16) (v := ?_) (a' := ?_) (bb 14 14) rfl rfl (by kernel_rfl) (fun _ _ _ h => h) (Or.inl ⟨by rfl, ?_⟩) ?_ ?_
  rotate_left
  · intro w'
    go_simp
    with_reducible rfl
  rotate_left
  · simp only [Act.put, List.setIfInBounds_toArray, List.set_cons_zero, List.set_cons_succ, i64_w, i32_w]
    rfl
  refine pure_ (i := 4) (N := some 17) (v := ?_) (a' := ?_) (bb 14 30) rfl rfl (by kernel_rfl) (fun _ _ _ h => h) (Or.inl ⟨by rfl, ?_⟩) ?_ ?_
  rotate_left
  · intro w'
    go_simp
    with_reducible rfl
  rotate_left
  · simp only [Act.put, List.setIfInBounds_toArray, List.set_cons_zero, List.set_cons_succ, i64_w, i32_w]
    rfl
  refine pure_ (i := 6) (N := some 19) (v := ?_) (a' := ?_) (bb 14 94) rfl rfl (by kernel_rfl) (fun _ _ _ h => h) (Or.inl ⟨by rfl, ?_⟩) ?_ ?_
  rotate_left
  · intro w'
    go_simp
    with_reducible rfl
  rotate_left
  · simp only [Act.put, List.setIfInBounds_toArray, List.set_cons_zero, List.set_cons_succ, i64_w, i32_w]
    rfl
  refine take_ (i := 7) (N := some 20) (v := ?_) (a' := ?_) (bb 14 222) rfl rfl (by kernel_rfl) (fun _ _ _ h => h) (Or.inl ⟨by rfl, ?_⟩) hHeld ?_ ?_
  rotate_left
  · intro w' hSw
    go_simp
    with_reducible rfl
  rotate_left
  · simp only [Act.put, List.setIfInBounds_toArray, List.set_cons_zero, List.set_cons_succ, i64_w, i32_w]
    rfl
  refine pure_ (i := 8) (N := some 21) (v := ?_) (a' := ?_) (bb 14 478) rfl rfl (by kernel_rfl) (fun _ _ _ h => h) (Or.inl ⟨by rfl, ?_⟩) ?_ ?_
  rotate_left
  · intro w'
    go_simp
    with_reducible rfl
  rotate_left
  · simp only [Act.put, List.setIfInBounds_toArray, List.set_cons_zero, List.set_cons_succ, i64_w, i32_w]
    rfl
  refine pure_ (i := 9) (N := some 22) (v := ?_) (a' := ?_) (bb 14 990) rfl rfl (by kernel_rfl) (fun _ _ _ h => h) (Or.inl ⟨by rfl, ?_⟩) ?_ ?_
  rotate_left
  · intro w'
    go_simp
    with_reducible rfl
  rotate_left
  · simp only [Act.put, List.setIfInBounds_toArray, List.set_cons_zero, List.set_cons_succ, i64_w, i32_w]
    rfl
  refine pure_ (i := 10) (N := some 23) (v := ?_) (a' := ?_) (bb 14 2014) rfl rfl (by kernel_rfl) (fun _ _ _ h => h) (Or.inl ⟨by rfl, ?_⟩) ?_ ?_
  rotate_left
  · intro w'
    go_simp
    with_reducible rfl
  rotate_left
  · simp only [Act.put, List.setIfInBounds_toArray, List.set_cons_zero, List.set_cons_succ, i64_w, i32_w]
    rfl
  refine one_ (i := 0) (N := some 13) (bb 14 2015) rfl rfl (by kernel_rfl) (by decide) (fun K hK => ?_)
  refine Kd.R_lit_step dd (w0 := w3) w3.heap.size 159 (by rfl) rfl (xs := []) (inner := []) (ok := fun _ => True) (okp := fun _ => True) (by first | (go_simp; done) | (go_simp; rfl)) (Reps.none _ _) (fun _ h => h) trivial (Below.refl _ _) (Nat.le_refl _) (by decide) ?_
  intro v1 w4 hR hB _ _
  have HR1 := Aside0.mk hR
  have HB4 := Aside0.mk hB
  clear hR hB
  refine hK.out _ _ ((blk_cell (blk_below HP1.out HB4.out) 2).trans rfl) (fun hHeld => ?_)
  clear hK K
  refine norm_ (a' := ?_) ?_ ?_
  rotate_left
  · show Act.put _ (some 13) _ = _
    simp only [Act.put, List.setIfInBounds_toArray, List.set_cons_zero, List.set_cons_succ, i64_w, i32_w]
    rfl
  refine one_ (i := 5) (N := some 18) (bb 14 2047) rfl rfl (by kernel_rfl) (by decide) (fun K hK => ?_)
  refine Kd.R_append_rows_step dd (Rr := dd.K w4) (w0 := w3) w3.heap.size (by rfl) (.tmp 13) (.tmp 17) 72 159 (.agg #[.int .i64 0, .bool false]) 16 rfl Try.underlying72 info159 rfl (by decide) (by decide) v1 [] (l.take k) A k c (fun _ => True) (fun _ => False) rfl rfl HR1.out (Kd.C_below (Kd.C_below HC.out.1 HB.out) HB4.out) (dd_KM _ _) (fun _ h => h.elim) (fun _ _ => trivial) HB4.out HB4.out.size ?hl ?_
  case hl => have := HX.out.2; have := H.out.few; simp only [List.length_nil]; omega
  intro v2 w5 hR hB _ _
  have HR2 := Aside0.mk hR
  have HB5 := Aside0.mk hB
  clear hR hB
  refine hK.out _ _ ((blk_cell (blk_below HP1.out HB5.out) 2).trans rfl) (fun hHeld => ?_)
  clear hK K
  refine norm_ (a' := ?_) ?_ ?_
  rotate_left
  · show Act.put _ (some 18) _ = _
    simp only [Act.put, List.setIfInBounds_toArray, List.set_cons_zero, List.set_cons_succ, i64_w, i32_w]
    rfl
  refine one_ (i := 11) (N := some 24) (bb 14 4095) rfl rfl (by kernel_rfl) (by decide) (fun K hK => ?_)
  refine Kd.R_append_rows_step dd (Rr := dd.K w5) (w0 := w3) w3.heap.size (by rfl) (.tmp 18) (.tmp 23) 72 159 (.agg #[.int .i64 0, .bool false]) 16 rfl Try.underlying72 info159 rfl (by decide) (by decide) v2 ([] ++ l.take k) (l.drop (k + 1)) A2 (n - (k + 1)) (c - (k + 1)) (fun _ => True) (fun _ => False) rfl rfl HR2.out (Kd.C_below (Kd.C_below HC.out.2 HB.out) HB5.out) (dd_KM _ _) (fun _ h => h.elim) (fun _ _ => trivial) HB5.out HB5.out.size ?hl ?_
  case hl => have := HX.out.2; have := H.out.few; have := H.out.len; simp only [List.nil_append, List.length_take]; omega
  intro v3 w6 hR hB _ _
  rw [HQ.out.2] at hR
  obtain ⟨A3, c3, rfl⟩ := Kd.R_slice hR
  rw [HQ.out.1] at hR ⊢
  have HR3 := Aside0.mk hR
  have HB6 := Aside0.mk hB
  have f6 := blk_frozen (blk_below HP1.out hB) 2
  have g6 := (blk_cell (blk_below HP1.out hB) 2).trans rfl
  clear hR hB
  refine hK.out _ _ ((blk_cell (blk_below HP1.out HB6.out) 2).trans rfl) (fun hHeld => ?_)
  clear hK K
  refine norm_ (a' := ?_) ?_ ?_
  rotate_left
  · show Act.put _ (some 24) _ = _
    simp only [Act.put, List.setIfInBounds_toArray, List.set_cons_zero, List.set_cons_succ, i64_w, i32_w]
    rfl
  refine pure_ (i := 12) (N := some 25) (v := ?_) (a' := ?_) (bb 14 8191) rfl rfl (by kernel_rfl) (fun _ _ _ h => h) (Or.inl ⟨by rfl, ?_⟩) ?_ ?_
  rotate_left
  · intro w'
    go_simp
    with_reducible rfl
  rotate_left
  · simp only [Act.put, List.setIfInBounds_toArray, List.set_cons_zero, List.set_cons_succ, i64_w, i32_w]
    rfl
  refine last_ (i := 13) (N := none) (bb 14 16383) rfl rfl (by kernel_rfl) (by decide) (fun K hK => ?_)
  refine skip_ (by rfl) rfl (show _ = Result.ok Next.skip (World.setCell (w6) (⟨g, 2, none⟩) (.slice A3 (n - 1) c3)) from by first | (go_simp; done) | (go_simp; rfl)) ?_
  refine hK.out _ _ ?_
  clear hK K
  refine done_ (by kernel_rfl) ?_
  have HP7 := Aside0.mk (blk_put (blk_below HP1.out HB6.out) 2 (.slice A3 (n - 1) c3) rfl)
  have HW7 := Aside0.mk (blk_far (blk_below HP2.out HB6.out) (p := ⟨g, 2, none⟩) (by have := HG.out.2.2; show k1 ≠ g; omega) (.slice A3 (n - 1) c3))
  have HR7 := Aside0.mk (dd_one (i := 2) (u := .slice A3 (n - 1) c3) HR3.out (blk_below HP1.out HB6.out))
  have hgle : w.heap.size ≤ g := by have := HG.out.2.2; omega
  have HB7 := Aside0.mk (bput (i := 2) (u := .slice A3 (n - 1) c3) (below_step HB.out HB6.out) hgle)
  have hle3 := HB.out.size
  clear f6 g6 hHeld HB4 HB5 HR1 HR2
  generalize w6.setCell ⟨g, 2, none⟩ (.slice A3 (n - 1) c3) = w7 at HP7 HW7 HR7 HB7 ⊢
  obtain ⟨q0, q1, q2, q3, q4, q5, -⟩ := six HP7.out
  obtain ⟨r0, r1, r2, r3, r4, r5, s0, s1, s2, s3, s4, s5⟩ := six HW7.out
  have HL3 := Aside0.mk hle3
  clear hle3 hgle
  go_wp2
  have hw := HW7.out
  refine bodyPost_ret (results_ct rfl _ _ k1 74 #[.int .i64 m0, .int .i64 m1, .slice A3 (n - 1) c3, .int .i64 ad, .int .i64 tk, .int .i64 rf] (0, 0) _ rfl (six_put hw _ _ _ _ _ _) Try.underlying74 rfl (by kernel_rfl)) rfl ?_
  refine ⟨A3, c3, rfl, Kd.R_lower (dd_six HR7.out hw _ _ _ _ _ _) HL3.out, ?_⟩
  have hk : w.heap.size ≤ k1 := by have := HG.out.2.2; omega
  exact bput (bput (bput (bput (bput (bput HB7.out hk) hk) hk) hk) hk) hk
end Go.Proofs.Ytimgfdkndlbfbaa.HBkR
