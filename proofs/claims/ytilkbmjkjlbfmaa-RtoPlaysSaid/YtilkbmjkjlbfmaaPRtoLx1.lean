/- The laws of rto: RtoPlays' function: what the timer does is what the law's own timer does, round by round. Conditions: each theorem's own. -/
import Derived.Test.YtilkbmjkjlbfmaaHRto
import Derived.Test.YtilkbmjkjlbfmaaPRtox1
import Derived.Test.YtilkbmjkjlbfmaaPRtox2
import Derived.Test.YtilkbmjkjlbfmaaPRtoLx0
namespace Go.Proofs.Ytilkbmjkjlbfmaa.PRtoL
open Go.RowKit Go.Proofs.YtilkbmjkjlbfmaaW.PrintWords Go.Proofs.YtilkbmjkjlbfmaaW.PrintLast Go.Proofs.YtilkbmjkjlbfmaaW.PrintMore Go.Proofs.Ytilkbmjkjlbfmaa.HRto Go.Proofs.Ytilkbmjkjlbfmaa.PRto
set_option linter.unusedVariables false
set_option linter.unusedSimpArgs false
/-- A timer that is within its bounds. -/
def Ok (lo hi : Int) (s : St) : Prop := 0 ≤ s.m ∧ s.m ≤ 8388608 ∧ 0 ≤ s.v ∧ s.v ≤ 4194304 ∧ lo ≤ s.now ∧ s.now ≤ hi
theorem w64 (n : Int) (h0 : -4611686018427387904 ≤ n) (h1 : n ≤ 4611686018427387904) : wrap64 n = n := by unfold wrap64; omega
theorem Ok.sample {lo hi : Int} {s : St} (l1 : lo ≤ hi) (h : Ok lo hi s) (x : Int) : Ok lo hi (S1 lo hi s x) := by
  obtain ⟨m0, m1, v0, v1, -, -⟩ := h
  unfold S1
  obtain ⟨t, ht⟩ : ∃ t, t = (if x < 0 then 0 else if 1048576 < x then 1048576 else x) := ⟨_, rfl⟩
  have t0 : 0 ≤ t := by rw [ht]; (repeat' split) <;> omega
  have t1 : t ≤ 1048576 := by rw [ht]; (repeat' split) <;> omega
  simp only []
  rw [← ht]
  refine ⟨?_, ?_, ?_, ?_, ?_, ?_⟩
  all_goals simp only []
  all_goals (repeat' split) <;> omega
theorem ref_sample (lo hi x : Int) (s : St) (l0 : 1 ≤ lo) (l1 : lo ≤ hi) (h : Ok lo hi s) :
    towroperef20_Sample.f 4 lo hi s.m s.v s.now s.bk s.k x = some (lo, hi, (S1 lo hi s x).m, (S1 lo hi s x).v, (S1 lo hi s x).now, 0, true) := by
  obtain ⟨m0, m1, v0, v1, -, -⟩ := h
  have c : towroperef20_Sample.f 4 lo hi s.m s.v s.now s.bk s.k x = towroperef20_Sample.j1 3 (if x < 0 then 0 else if 1048576 < x then 1048576 else x) lo hi s.m s.v s.now s.bk s.k := by
    unfold towroperef20_Sample.f
    by_cases x0 : x < 0
    · rw [if_pos x0, if_pos x0]; rw [towroperef20_Sample.j0]; rw [if_neg (by decide)]
    · rw [if_neg x0, if_neg x0]; rw [towroperef20_Sample.j0]
      by_cases x1 : x > 1048576
      · rw [if_pos x1, if_pos x1]
      · rw [if_neg x1, if_neg x1]
  rw [c]
  unfold S1
  obtain ⟨t, ht⟩ : ∃ t, t = (if x < 0 then 0 else if 1048576 < x then 1048576 else x) := ⟨_, rfl⟩
  have t0 : 0 ≤ t := by rw [ht]; (repeat' split) <;> omega
  have t1 : t ≤ 1048576 := by rw [ht]; (repeat' split) <;> omega
  simp only []
  rw [← ht]
  clear c ht
  have fin : ∀ M V : Int, 0 ≤ M → M ≤ 8388608 → 0 ≤ V → V ≤ 4194304 → towroperef20_Sample.j2 2 lo hi M V s.now s.bk true =
      some (lo, hi, M, V, (if M / 8 + (if V < 1 then 1 else V) < lo then lo else if hi < M / 8 + (if V < 1 then 1 else V) then hi else M / 8 + (if V < 1 then 1 else V)), 0, true) := by
    intro M V M0 M1 V0 V1
    have d : Int.tdiv M 8 = M / 8 := Int.tdiv_eq_ediv_of_nonneg M0
    have j3 : ∀ q : Int, 0 ≤ q → q ≤ 4194304 → towroperef20_Sample.j3 1 q lo hi M V s.now s.bk true = some (lo, hi, M, V, (if M / 8 + q < lo then lo else if hi < M / 8 + q then hi else M / 8 + q), 0, true) := by
      intro q q0 q1
      rw [towroperef20_Sample.j3]
      rw [d, w64 (M / 8) (by omega) (by omega), w64 (M / 8 + q) (by omega) (by omega)]
      by_cases a : M / 8 + q < lo
      · rw [if_pos a, if_neg (show ¬ lo > hi by omega), if_pos a]
      · rw [if_neg a, if_neg a]
        by_cases e : M / 8 + q > hi
        · rw [if_pos e, if_pos e]
        · rw [if_neg e, if_neg e]
    rw [towroperef20_Sample.j2]
    by_cases a : V < 1
    · rw [if_pos a, if_pos a, j3 1 (by decide) (by decide)]
    · rw [if_neg a, if_neg a, j3 V (by omega) (by omega)]
  have d8 : Int.tdiv s.m 8 = s.m / 8 := Int.tdiv_eq_ediv_of_nonneg m0
  have d4 : Int.tdiv s.v 4 = s.v / 4 := Int.tdiv_eq_ediv_of_nonneg v0
  rw [towroperef20_Sample.j1]
  cases hk : s.k with
  | true =>
    rw [if_pos rfl, d8, d4, w64 (s.m / 8) (by omega) (by omega), w64 (s.v / 4) (by omega) (by omega), w64 (t - s.m / 8) (by omega) (by omega), w64 (s.m + (t - s.m / 8)) (by omega) (by omega), w64 (s.v - s.v / 4) (by omega) (by omega), w64 (-(t - s.m / 8)) (by omega) (by omega)]
    simp only [if_true]
    by_cases a : t - s.m / 8 < 0
    · rw [if_pos a, if_pos a, w64 _ (by omega) (by omega), fin _ _ (by omega) (by omega) (by omega) (by omega), show s.v - s.v / 4 + -(t - s.m / 8) = s.v + (-(t - s.m / 8) - s.v / 4) by omega]
    · rw [if_neg a, if_neg a, w64 _ (by omega) (by omega), fin _ _ (by omega) (by omega) (by omega) (by omega), show s.v - s.v / 4 + (t - s.m / 8) = s.v + ((t - s.m / 8) - s.v / 4) by omega]
  | false =>
    simp only [Bool.false_eq_true, if_false]
    rw [w64 (8 * t) (by omega) (by omega), w64 (2 * t) (by omega) (by omega), fin _ _ (by omega) (by omega) (by omega) (by omega)]
theorem ref_back (lo hi : Int) (s : St) (l0 : 1 ≤ lo) (l2 : hi ≤ 1073741824) (h : Ok lo hi s) (b0 : 0 ≤ s.bk) (b1 : s.bk ≤ 1000) :
    towroperef20_Back.f lo hi s.m s.v s.now s.bk s.k = some (lo, hi, s.m, s.v, (if hi < 2 * s.now then hi else 2 * s.now), s.bk + 1, s.k) := by
  obtain ⟨m0, m1, v0, v1, n0, n1⟩ := h
  unfold towroperef20_Back.f
  rw [w64 (2 * s.now) (by omega) (by omega), w64 (s.bk + 1) (by omega) (by omega)]
  by_cases a : 2 * s.now > hi
  · rw [if_pos a, if_pos a]
  · rw [if_neg a, if_neg a]
theorem ref_right (a0 a1 a2 : Int) : towroperef20_Right.f a0 a1 a2 = some (decide (1 ≤ a0 ∧ a0 ≤ a2 ∧ a2 ≤ a1 ∧ a1 ≤ 1073741824)) := by
  unfold towroperef20_Right.f
  (repeat' split) <;> simp_all <;> omega
theorem Ok.back {lo hi : Int} {s : St} (l0 : 1 ≤ lo) (h : Ok lo hi s) : Ok lo hi { s with now := if hi < 2 * s.now then hi else 2 * s.now, bk := s.bk + 1 } := by
  obtain ⟨m0, m1, v0, v1, n0, n1⟩ := h
  refine ⟨m0, m1, v0, v1, ?_, ?_⟩
  all_goals simp only []
  all_goals split <;> omega
theorem nine {w : World} {g : Nat} {v0 v1 v2 v3 v4 v5 v6 : Value} (h : w.heap[g]? = some (.cells #[v0, v1, v2, v3, v4, v5, v6] 39 (0, 0))) :
    w.cell? ⟨g, 0, none⟩ = some v0 ∧ w.cell? ⟨g, 1, none⟩ = some v1 ∧ w.cell? ⟨g, 2, none⟩ = some v2 ∧ w.cell? ⟨g, 3, none⟩ = some v3 ∧ w.cell? ⟨g, 4, none⟩ = some v4 ∧ w.cell? ⟨g, 5, none⟩ = some v5 ∧ w.cell? ⟨g, 6, none⟩ = some v6 ∧
    w.frozen? ⟨g, 0, none⟩ = false ∧ w.frozen? ⟨g, 1, none⟩ = false ∧ w.frozen? ⟨g, 2, none⟩ = false ∧ w.frozen? ⟨g, 3, none⟩ = false ∧ w.frozen? ⟨g, 4, none⟩ = false ∧ w.frozen? ⟨g, 5, none⟩ = false ∧ w.frozen? ⟨g, 6, none⟩ = false :=
  ⟨(blk_cell h 0).trans rfl, (blk_cell h 1).trans rfl, (blk_cell h 2).trans rfl, (blk_cell h 3).trans rfl, (blk_cell h 4).trans rfl, (blk_cell h 5).trans rfl, (blk_cell h 6).trans rfl, blk_frozen h 0, blk_frozen h 1, blk_frozen h 2, blk_frozen h 3, blk_frozen h 4, blk_frozen h 5, blk_frozen h 6⟩
/-- A store of seven cells. -/
def put7 (w : World) (g : Nat) (x0 x1 x2 x3 x4 x5 x6 : Value) : World := ((((((w.setCell ⟨g, 0, none⟩ x0).setCell ⟨g, 1, none⟩ x1).setCell ⟨g, 2, none⟩ x2).setCell ⟨g, 3, none⟩ x3).setCell ⟨g, 4, none⟩ x4).setCell ⟨g, 5, none⟩ x5).setCell ⟨g, 6, none⟩ x6
theorem put7_blk {w : World} {g : Nat} {v0 v1 v2 v3 v4 v5 v6 : Value} (h : w.heap[g]? = some (.cells #[v0, v1, v2, v3, v4, v5, v6] 39 (0, 0))) (x0 x1 x2 x3 x4 x5 x6 : Value) :
    (put7 w g x0 x1 x2 x3 x4 x5 x6).heap[g]? = some (.cells #[x0, x1, x2, x3, x4, x5, x6] 39 (0, 0)) := by
  unfold put7
  refine blk_put (cs := #[x0, x1, x2, x3, x4, x5, v6]) ?_ 6 x6 rfl
  refine blk_put (cs := #[x0, x1, x2, x3, x4, v5, v6]) ?_ 5 x5 rfl
  refine blk_put (cs := #[x0, x1, x2, x3, v4, v5, v6]) ?_ 4 x4 rfl
  refine blk_put (cs := #[x0, x1, x2, v3, v4, v5, v6]) ?_ 3 x3 rfl
  refine blk_put (cs := #[x0, x1, v2, v3, v4, v5, v6]) ?_ 2 x2 rfl
  refine blk_put (cs := #[x0, v1, v2, v3, v4, v5, v6]) ?_ 1 x1 rfl
  exact blk_put (cs := #[v0, v1, v2, v3, v4, v5, v6]) h 0 x0 rfl
theorem put7_keep (w : World) (g : Nat) (x0 x1 x2 x3 x4 x5 x6 : Value) : Keep g w (put7 w g x0 x1 x2 x3 x4 x5 x6) :=
  (((((((Keep.refl g w).set _ _).set _ _).set _ _).set _ _).set _ _).set _ _).set _ _
/-- What the law's own timer holds. -/
def Is9 (w : World) (g : Nat) (lo hi : Int) (s : St) : Prop := w.heap[g]? = some (.cells #[.int .i64 lo, .int .i64 hi, .int .i64 s.m, .int .i64 s.v, .int .i64 s.now, .int .i64 s.bk, .bool s.k] 39 (0, 0))
def agg (lo hi : Int) (s : St) : Value := .agg #[.int .i64 lo, .int .i64 hi, .int .i64 s.m, .int .i64 s.v, .int .i64 s.now, .int .i64 s.bk, .bool s.k]
theorem lt_of_blk {w : World} {g : Nat} {o : Obj} (h : w.heap[g]? = some o) : g < w.heap.size := by
  rcases Nat.lt_or_ge g w.heap.size with h' | h'
  · exact h'
  · rw [Array.getElem?_eq_none h'] at h; cases h
/-- What a round knows of both timers. -/
structure Both (W w : World) (b g : Nat) (lo hi : Int) (s : St) : Prop where
  ok : Ok lo hi s
  it : Is w b lo hi s
  own : Is9 w g lo hi s
  bel : Below W.heap.size W w
  hb : b < w.heap.size
  hg : g < w.heap.size
  ne : g ≠ b
  lb : W.heap.size ≤ b
  lg : W.heap.size ≤ g
theorem Both.next {W wr w2 w3 : World} {b g : Nat} {lo hi : Int} {s s' : St} (h : Both W wr b g lo hi s) (hI : Is w2 b lo hi s') (hK : Keep b wr w2) (h3 : Below w2.heap.size w2 w3) (ok : Ok lo hi s') :
    Both W (put7 w3 g (.int .i64 lo) (.int .i64 hi) (.int .i64 s'.m) (.int .i64 s'.v) (.int .i64 s'.now) (.int .i64 s'.bk) (.bool s'.k)) b g lo hi s' := by
  have k := put7_keep w3 g (.int .i64 lo) (.int .i64 hi) (.int .i64 s'.m) (.int .i64 s'.v) (.int .i64 s'.now) (.int .i64 s'.bk) (.bool s'.k)
  have e2 := hK.2.1
  have e3 := h3.size
  have ek := k.2.1
  have hb := h.hb
  have hg := h.hg
  have es := h.bel.size
  have g2 : w2.heap[g]? = _ := (hK.2.2 g hg h.ne).trans h.own
  have g3 : w3.heap[g]? = _ := (h3.block g (by omega)).trans g2
  have lb := h.lb
  have lg := h.lg
  refine ⟨ok, (k.2.2 b (by omega) (fun e => h.ne e.symm)).trans ((h3.block b (by omega)).trans hI), put7_blk g3 _ _ _ _ _ _ _, ?_, by omega, by omega, h.ne, lb, lg⟩
  exact ((h.bel.trans (hK.below lb es)).trans (h3.mono (by omega))).trans (k.below lg (by omega))
theorem Both.drewN {W w : World} {b g : Nat} {lo hi : Int} {s : St} (h : Both W w b g lo hi s) (n : Nat) : Both W (w.drewN n) b g lo hi s :=
  ⟨h.ok, h.it, h.own, pw_below_drewN h.bel n, h.hb, h.hg, h.ne, h.lb, h.lg⟩
theorem Both.own2 {W wr w2 : World} {b g : Nat} {lo hi : Int} {s : St} (h : Both W wr b g lo hi s) (hK : Keep b wr w2) : Is9 w2 g lo hi s := (hK.2.2 g h.hg h.ne).trans h.own
theorem Both.own3 {W wr w2 w3 : World} {b g : Nat} {lo hi : Int} {s : St} (h : Both W wr b g lo hi s) (hK : Keep b wr w2) (h3 : Below w2.heap.size w2 w3) : Is9 w3 g lo hi s := (h3.block g (Nat.lt_of_lt_of_le h.hg hK.2.1)).trans (h.own2 hK)
/-- A slice of bools, by what stands in it. -/
def BRow (w : World) (A : Option Addr) (n : Nat) (g : Nat → Bool) : Prop := ∀ i, i < n → ∃ ad : Addr, A = some ad ∧ (ad.add i).block < w.heap.size ∧ w.cell? (ad.add i) = some (.bool (g i))
set_option maxRecDepth 100000 in
set_option maxHeartbeats 8000000 in
theorem plays_many (a0 a1 a2 : Int) (A3 : Option Addr) (c3 : Nat) (l3 : List Int) (A4 : Option Addr) (n4 c4 : Nat) (w : World) (hl : 200 < l3.length) :
    Calls Try.prog 4 #[.int .i64 a0, .int .i64 a1, .int .i64 a2, .slice A3 l3.length c3, .slice A4 n4 c4] w fun e w' => e = .returned (.bool true) ∧ Below w.heap.size w w' := by
  have d1 : decide (200 < (l3.length : Int)) = true := decide_eq_true (by omega)
  have d2 : decide (200 < l3.length) = true := decide_eq_true hl
  clear hl
  go_enter Try.func4, Try.ntmps4
  go_wp2_with (go_at_call 17; refine (live_calls _).mono ?_; rintro e w' ⟨rfl, hL⟩; have HL := Aside0.mk hL; clear hL)
  go_ret
  exact ⟨rfl, HL.out⟩
set_option maxRecDepth 100000 in
set_option maxHeartbeats 8000000 in
theorem plays_none (a0 a1 a2 : Int) (A3 : Option Addr) (c3 : Nat) (l3 : List Int) (A4 : Option Addr) (n4 c4 : Nat) (w : World) (hl : ¬ 200 < l3.length) (hR : ¬ (1 ≤ a0 ∧ a0 ≤ a2 ∧ a2 ≤ a1 ∧ a1 ≤ 1073741824)) :
    Calls Try.prog 4 #[.int .i64 a0, .int .i64 a1, .int .i64 a2, .slice A3 l3.length c3, .slice A4 n4 c4] w fun e w' => e = .returned (.bool true) ∧ Below w.heap.size w w' := by
  have d1 : decide (200 < (l3.length : Int)) = false := decide_eq_false (by omega)
  have d2 : decide (200 < l3.length) = false := decide_eq_false hl
  have HN := Aside0.mk (new_none a0 a1 a2 w hR)
  have HT := Aside0.mk (towroperef20_Right.calls a0 a1 a2 false w (by rw [ref_right, decide_eq_false hR]))
  clear hl hR
  go_enter Try.func4, Try.ntmps4
  go_upto_region 5 with (first | (go_at_call 18; refine HN.out.mono ?_; rintro e w' ⟨rfl, rfl⟩) | (go_at_call 19; refine HT.out.mono ?_; rintro e w' ⟨rfl, nd, rfl⟩))
  clear HN HT
  go_wp2_with (first | (go_at_call 20; refine (code_calls _ _).mono ?_; rintro e w' ⟨rfl, rfl⟩) | (go_at_call 17; refine (live_calls _).mono ?_; rintro e w' ⟨rfl, hL⟩; have HL := Aside0.mk hL; clear hL))
  go_ret
  exact ⟨rfl, (pw_below_drewN (Below.refl _ _) _).trans HL.out⟩
set_option maxRecDepth 100000 in
set_option maxHeartbeats 8000000 in
theorem plays_all (a0 a1 a2 : Int) (A3 : Option Addr) (c3 : Nat) (l3 : List Int) (A4 : Option Addr) (n4 c4 : Nat) (g4 : Nat → Bool) (w : World) (hr3 : Kd.C (Kd.int .i64) w A3 l3.length l3) (hc3 : l3.length ≤ c3) (hr4 : BRow w A4 n4 g4) (hl : ¬ 200 < l3.length) (hR : 1 ≤ a0 ∧ a0 ≤ a2 ∧ a2 ≤ a1 ∧ a1 ≤ 1073741824) :
    Calls Try.prog 4 #[.int .i64 a0, .int .i64 a1, .int .i64 a2, .slice A3 l3.length c3, .slice A4 n4 c4] w fun e w' => e = .returned (.bool true) ∧ Below w.heap.size w w' := by
  have d1 : decide (200 < (l3.length : Int)) = false := decide_eq_false (by omega)
  have d2 : decide (200 < l3.length) = false := decide_eq_false hl
  have HN := Aside0.mk (new_calls a0 a1 a2 w hR)
  have HT := fun w => Aside0.mk (towroperef20_Right.calls a0 a1 a2 true w (by rw [ref_right, decide_eq_true hR]))
  have H3 := Aside0.mk hr3
  have H4 := Aside0.mk hr4
  have HR := Aside0.mk hR
  have HC := Aside0.mk hc3
  have HM := Aside0.mk (show l3.length ≤ 200 by omega)
  clear hl hR hr3 hr4 hc3
  go_enter Try.func4, Try.ntmps4
  go_upto_region 6 with (first | (go_at_call 18; refine HN.out.mono ?_; rintro e w1 ⟨b, rfl, hb, hI, hB⟩; have HI := Aside0.mk hI; have HB := Aside0.mk hB; have Hb := Aside0.mk hb; clear hI hB hb) | (go_at_call 19; refine (HT _).out.mono ?_; rintro e w' ⟨rfl, nd, rfl⟩))
  clear HN HT
  have HW := fun w' (h : Is w' b a0 a1 ⟨0, 0, false, a2, 0⟩) => Aside0.mk (now_calls b a0 a1 _ w' h)
  go_upto_region 8 with (first | (go_at_call 20; refine (code_calls _ _).mono ?_; rintro e w' ⟨rfl, rfl⟩) | (go_at_call 21; refine Calls.mono (HW _ (by exact HI.out)).out ?_; rintro e w' ⟨rfl, rfl⟩))
  clear HW
  go_upto_block 0 with (((with_reducible refine gate_dst (N := 13) rfl ?_); refine box_event ?hg (N := 13) ?hd (cs := #[.int .i64 0, .int .i64 0, .int .i64 0, .int .i64 0, .int .i64 0, .int .i64 0, .bool false]) (t := 39) ?hr ?_; (case hd => rfl); (case hg => rfl); (case hr => first | (go_simp; done) | (go_simp; rfl)); intro gb hg w4 hbox hb; have HG := Aside0.mk hg; have HX := Aside0.mk hbox; have HB4 := Aside0.mk hb; obtain ⟨z0, z1, z2, z3, z4, z5, z6, y0, y1, y2, y3, y4, y5, y6⟩ := nine hbox; clear hg hbox hb))
  have HH : Aside0 ((0 : Int) ≤ 0 ∧ (0 : Int) ≤ l3.length ∧ ∃ s : St, 0 ≤ s.bk ∧ s.bk ≤ 0 ∧ Both w (put7 w4 gb (.int .i64 a0) (.int .i64 a1) (.int .i64 0) (.int .i64 0) (.int .i64 a2) (.int .i64 0) (.bool false)) b gb a0 a1 s) := by
    have r := HR.out
    have e : gb = w1.heap.size := HG.out
    have hs := HB.out.size
    have s4 : w1.heap.size ≤ w4.heap.size := HB4.out.size
    have sb : b < w1.heap.size := lt_of_blk HI.out
    have sg : gb < w4.heap.size := lt_of_blk HX.out
    have k := put7_keep w4 gb (.int .i64 a0) (.int .i64 a1) (.int .i64 0) (.int .i64 0) (.int .i64 a2) (.int .i64 0) (.bool false)
    have ne : b ≠ gb := by omega
    have hbl : w.heap.size ≤ b := Nat.le_of_eq Hb.out.symm
    refine ⟨by omega, by omega, ⟨0, 0, false, a2, 0⟩, show (0 : Int) ≤ 0 by decide, show (0 : Int) ≤ 0 by decide, ⟨⟨show (0 : Int) ≤ 0 by decide, show (0 : Int) ≤ 8388608 by decide, show (0 : Int) ≤ 0 by decide, show (0 : Int) ≤ 4194304 by decide, r.2.1, r.2.2.1⟩, ?_, put7_blk HX.out _ _ _ _ _ _ _, ?_, ?_, ?_, ne.symm, hbl, by omega⟩⟩
    · exact (k.2.2 b (by omega) ne).trans ((HB4.out.block b sb).trans HI.out)
    · exact ((pw_below_drewN HB.out nd).trans (HB4.out.mono hs)).trans (k.below (by omega) (by omega))
    · exact Nat.lt_of_lt_of_le (Nat.lt_of_lt_of_le sb s4) k.2.1
    · exact Nat.lt_of_lt_of_le sg k.2.1
  clear HI HX HB HB4 HG Hb z0 z1 z2 z3 z4 z5 z6 y0 y1 y2 y3 y4 y5 y6
  go_wp2
  go_loopw [14] (fun o wr => ∃ n, o = .int .i64 n ∧ Aside0 (0 ≤ n ∧ n ≤ l3.length ∧ ∃ s : St, 0 ≤ s.bk ∧ s.bk ≤ n ∧ Both w wr b gb a0 a1 s)) (fun o _ => l3.length - num o)
  case atStart => exact ⟨0, rfl, HH⟩
  case round =>
    (try clear HH)
    obtain ⟨n, rfl, ⟨n0, n1, s, b0, b1, hS⟩⟩ := hrel
    have HS := Aside0.mk hS
    clear hS
    have nb : n ≤ 200 := by have := HM.out; omega
    by_cases c : n < l3.length
    rotate_left
    · have c1 : decide (n < (l3.length : Int)) = false := decide_eq_false c
      have c2 : decide (n.toNat < l3.length) = false := decide_eq_false (by omega)
      clear c
      go_wp2_with (go_at_call 17; refine (live_calls _).mono ?_; rintro e w' ⟨rfl, hL⟩; have HL := Aside0.mk hL; clear hL)
      go_ret
      exact ⟨rfl, HS.out.bel.trans (HL.out.mono HS.out.bel.size)⟩
    have c1 : decide (n < (l3.length : Int)) = true := decide_eq_true c
    by_cases cb : n < n4 ∧ g4 n.toNat = true
    · obtain ⟨cn, cg⟩ := cb
      obtain ⟨ad, rfl, hlt, hx⟩ := H4.out n.toNat (by omega)
      have c3 : decide (n < (n4 : Int)) = true := decide_eq_true cn
      have c4 : (n < (n4 : Int)) = True := eq_true cn
      have c5 : (n.toNat < n4) = True := eq_true (by omega)
      have hxw := (HS.out.bel.cell (p := ad.add n.toNat) hlt).trans hx
      rw [cg] at hxw
      clear cn hlt hx cg
      go_upto_region 13 with (fail)
      have HBk := Aside0.mk (back_calls b a0 a1 s wr HS.out.it (by have := HS.out.ok.2.2.2.2.1; have := HR.out; omega) (by have := HS.out.ok.2.2.2.2.2; have := HR.out; omega) (by have := HR.out; omega) HR.out.2.2.2 b0 (by omega))
      clear hxw c3 c4 c5
      go_upto_region 14 with (go_at_call 22; refine HBk.out.mono ?_; rintro e w2 ⟨⟨v, rfl⟩, hI2, hK2⟩; have HI2 := Aside0.mk hI2; have HK2 := Aside0.mk hK2; clear hI2 hK2)
      have HRB := Aside0.mk (towroperef20_Back.calls a0 a1 s.m s.v s.now s.bk s.k _ _ _ _ _ _ _ w2 (ref_back a0 a1 s HR.out.1 HR.out.2.2.2 HS.out.ok b0 (by omega)))
      obtain ⟨z0, z1, z2, z3, z4, z5, z6, y0, y1, y2, y3, y4, y5, y6⟩ := nine (HS.out.own2 HK2.out)
      clear y0 y1 y2 y3 y4 y5 y6
      go_upto_region 17 with (go_at_call 23; refine HRB.out.mono ?_; rintro e w3 ⟨rfl, hb3⟩; have HB3 := Aside0.mk hb3; clear z0 z1 z2 z3 z4 z5 z6; obtain ⟨z0, z1, z2, z3, z4, z5, z6, y0, y1, y2, y3, y4, y5, y6⟩ := nine (HS.out.own3 HK2.out hb3); clear hb3)
      have hS5 := HS.out.next HI2.out HK2.out HB3.out (HS.out.ok.back HR.out.1)
      unfold put7 at hS5
      obtain ⟨s5, hs5⟩ : ∃ s5 : St, s5 = { s with now := if a1 < 2 * s.now then a1 else 2 * s.now, bk := s.bk + 1 } := ⟨_, rfl⟩
      have b05 : 0 ≤ s5.bk := by rw [hs5]; show (0 : Int) ≤ s.bk + 1; omega
      have b15 : s5.bk ≤ n + 1 := by rw [hs5]; show s.bk + 1 ≤ n + 1; omega
      simp only [] at hS5
      rw [← hs5] at hS5
      clear hs5
      generalize (((((((w3.setCell ⟨gb, 0, none⟩ (.int .i64 a0)).setCell ⟨gb, 1, none⟩ (.int .i64 a1)).setCell ⟨gb, 2, none⟩ (.int .i64 s.m)).setCell ⟨gb, 3, none⟩ (.int .i64 s.v)).setCell ⟨gb, 4, none⟩ (.int .i64 (if a1 < 2 * s.now then a1 else 2 * s.now))).setCell ⟨gb, 5, none⟩ (.int .i64 (s.bk + 1))).setCell ⟨gb, 6, none⟩ (.bool s.k)) = w5 at hS5 ⊢
      have HS5 := Aside0.mk hS5
      clear hS5 z0 z1 z2 z3 z4 z5 z6 y0 y1 y2 y3 y4 y5 y6 HBk HRB HI2 HK2 HB3
      have HSm := Aside0.mk (smooth_calls b a0 a1 s5 w5 HS5.out.it HS5.out.ok.1 HS5.out.ok.2.1 HS5.out.ok.2.2.1 HS5.out.ok.2.2.2.1)
      go_upto_region 18 with (go_at_call 26; refine HSm.out.mono ?_; rintro e w' ⟨rfl, n', rfl⟩)
      have hS6 := HS5.out.drewN n'
      generalize w5.drewN n' = w6 at hS6 ⊢
      clear HS5 HSm
      have HS5 := Aside0.mk hS6
      clear hS6
      have t1 : decide (s5.now < a0) = false := decide_eq_false (by have := HS5.out.ok.2.2.2.2.1; omega)
      have t2 : decide (a1 < s5.now) = false := decide_eq_false (by have := HS5.out.ok.2.2.2.2.2; omega)
      have t3 : IntKind.i64.wrap (n + 1) = n + 1 := wid _ (by omega) (by omega)
      have v0 := HS5.out.ok.1
      have v1 := HS5.out.ok.2.1
      have v2 := HS5.out.ok.2.2.1
      have v3 := HS5.out.ok.2.2.2.1
      obtain ⟨z0, z1, z2, z3, z4, z5, z6, y0, y1, y2, y3, y4, y5, y6⟩ := nine HS5.out.own
      clear y0 y1 y2 y3 y4 y5 y6
      go_quiet (first | (go_at_call 21; exact Calls.quiet_of_same ((now_calls b a0 a1 s5 _ (by exact HS5.out.it)).mono (fun e w' h => ⟨h.1, h.2.symm⟩))) | (go_at_call 27; exact Calls.quiet_of_same ((backs_calls b a0 a1 s5 _ (by exact HS5.out.it)).mono (fun e w' h => ⟨h.1, h.2.symm⟩))))
      go_wp2
      go_roundw
      case rel => exact ⟨n + 1, rfl, ⟨by omega, by omega, s5, b05, b15, HS5.out.drewN _⟩⟩
      case measure => simp only [num]; omega
    · by_cases c4 : n < n4
      · have hg : g4 n.toNat = false := by cases h : g4 n.toNat with | false => rfl | true => exact absurd ⟨c4, h⟩ cb
        clear cb
        obtain ⟨ad, rfl, hlt, hx⟩ := H4.out n.toNat (by omega)
        have c3 : decide (n < (n4 : Int)) = true := decide_eq_true c4
        have c6 : (n < (n4 : Int)) = True := eq_true c4
        have c5 : (n.toNat < n4) = True := eq_true (by omega)
        have hxw := (HS.out.bel.cell (p := ad.add n.toNat) hlt).trans hx
        rw [hg] at hxw
        clear hlt hx hg c4
        go_upto_region 15 with (fail)
        clear hxw c3 c5 c6
        have hC3 := Kd.C_below H3.out HS.out.bel
        obtain ⟨ad3, e3, hx3⟩ := Kd.at_int hC3 n n0 (by omega)
        subst e3
        (try simp only [Nat.mul_one] at hx3)
        have i1 : (n < (l3.length : Int)) = True := eq_true c
        have i2 : (n.toNat < l3.length) = True := eq_true (by omega)
        obtain ⟨s5, hs5⟩ : ∃ s5 : St, s5 = S1 a0 a1 s (rd l3 n) := ⟨_, rfl⟩
        have hSa := sample_calls b a0 a1 (rd l3 n) s wr HS.out.it HS.out.ok.1 HS.out.ok.2.1 HS.out.ok.2.2.1 HS.out.ok.2.2.2.1 HR.out.1 (by have := HR.out; omega) HR.out.2.2.2
        have hrs := ref_sample a0 a1 (rd l3 n) s HR.out.1 (by have := HR.out; omega) HS.out.ok
        have hok := HS.out.ok.sample (by have := HR.out; omega) (rd l3 n)
        rw [← hs5] at hSa hrs hok
        have hbk : s5.bk = 0 := by rw [hs5]; rfl
        have hkn : s5.k = true := by rw [hs5]; rfl
        have b05 : 0 ≤ s5.bk := by omega
        have b15 : s5.bk ≤ n + 1 := by omega
        have HSa := Aside0.mk hSa
        have HRs := Aside0.mk hrs
        have HOk := Aside0.mk hok
        have HBK := Aside0.mk hbk
        have HKN := Aside0.mk hkn
        clear hs5 hSa hrs hok hbk hkn hC3
        go_upto_region 16 with (go_at_call 24; refine HSa.out.mono ?_; rintro e w2 ⟨⟨v, rfl⟩, hI2, hK2⟩; have HI2 := Aside0.mk hI2; have HK2 := Aside0.mk hK2; clear hI2 hK2)
        have HRB := Aside0.mk (towroperef20_Sample.calls 4 a0 a1 s.m s.v s.now s.bk s.k (rd l3 n) _ _ _ _ _ _ _ w2.drew ⟨by have := HR.out; omega⟩ HRs.out)
        have hC3 := Kd.C_below H3.out (HS.out.bel.trans (HK2.out.below HS.out.lb HS.out.bel.size))
        clear hx3
        obtain ⟨ad3', e3', hx3⟩ := Kd.at_int hC3 n n0 (by omega)
        obtain rfl := Option.some.inj e3'
        (try simp only [Nat.mul_one] at hx3)
        clear hC3
        obtain ⟨z0, z1, z2, z3, z4, z5, z6, y0, y1, y2, y3, y4, y5, y6⟩ := nine (HS.out.own2 HK2.out)
        clear y0 y1 y2 y3 y4 y5 y6
        go_still_tail 5, (by kernel_rfl)
        change wpList _ _ _ _ _ w2.drew
        clear z0 z1 z2 z3 z4 z5 z6 hx3
        go_upto_region 17 with (go_at_call 25; refine HRB.out.mono ?_; rintro e w3 ⟨rfl, hb3⟩; have HB3 := Aside0.mk (show Below w2.heap.size w2 w3 from ⟨hb3.os, hb3.tape, hb3.output, hb3.size, hb3.block⟩); obtain ⟨z0, z1, z2, z3, z4, z5, z6, y0, y1, y2, y3, y4, y5, y6⟩ := nine (HS.out.own3 HK2.out HB3.out); clear hb3)
        have hS5 := HS.out.next HI2.out HK2.out HB3.out HOk.out
        unfold put7 at hS5
        rw [show Value.int .i64 s5.bk = .int .i64 0 from by rw [HBK.out], show Value.bool s5.k = .bool true from by rw [HKN.out]] at hS5
        generalize (((((((w3.setCell ⟨gb, 0, none⟩ (.int .i64 a0)).setCell ⟨gb, 1, none⟩ (.int .i64 a1)).setCell ⟨gb, 2, none⟩ (.int .i64 s5.m)).setCell ⟨gb, 3, none⟩ (.int .i64 s5.v)).setCell ⟨gb, 4, none⟩ (.int .i64 s5.now)).setCell ⟨gb, 5, none⟩ (.int .i64 0)).setCell ⟨gb, 6, none⟩ (.bool true)) = w5 at hS5 ⊢
        have HS5 := Aside0.mk hS5
        clear hS5 z0 z1 z2 z3 z4 z5 z6 y0 y1 y2 y3 y4 y5 y6 HSa HRB HI2 HK2 HB3 i1 i2
        have HSm := Aside0.mk (smooth_calls b a0 a1 s5 w5 HS5.out.it HS5.out.ok.1 HS5.out.ok.2.1 HS5.out.ok.2.2.1 HS5.out.ok.2.2.2.1)
        go_upto_region 18 with (go_at_call 26; refine HSm.out.mono ?_; rintro e w' ⟨rfl, n', rfl⟩)
        have hS6 := HS5.out.drewN n'
        generalize w5.drewN n' = w6 at hS6 ⊢
        clear HS5 HSm
        have HS5 := Aside0.mk hS6
        clear hS6
        have t1 : decide (s5.now < a0) = false := decide_eq_false (by have := HS5.out.ok.2.2.2.2.1; omega)
        have t2 : decide (a1 < s5.now) = false := decide_eq_false (by have := HS5.out.ok.2.2.2.2.2; omega)
        have t3 : IntKind.i64.wrap (n + 1) = n + 1 := wid _ (by omega) (by omega)
        have v0 := HS5.out.ok.1
        have v1 := HS5.out.ok.2.1
        have v2 := HS5.out.ok.2.2.1
        have v3 := HS5.out.ok.2.2.2.1
        obtain ⟨z0, z1, z2, z3, z4, z5, z6, y0, y1, y2, y3, y4, y5, y6⟩ := nine HS5.out.own
        clear y0 y1 y2 y3 y4 y5 y6
        go_quiet (first | (go_at_call 21; exact Calls.quiet_of_same ((now_calls b a0 a1 s5 _ (by exact HS5.out.it)).mono (fun e w' h => ⟨h.1, h.2.symm⟩))) | (go_at_call 27; exact Calls.quiet_of_same ((backs_calls b a0 a1 s5 _ (by exact HS5.out.it)).mono (fun e w' h => ⟨h.1, h.2.symm⟩))))
        go_wp2
        go_roundw
        case rel => exact ⟨n + 1, rfl, ⟨by omega, by omega, s5, b05, b15, HS5.out.drewN _⟩⟩
        case measure => simp only [num]; omega
      · have c3 : decide (n < (n4 : Int)) = false := decide_eq_false c4
        clear cb c4
        go_upto_region 15 with (fail)
        clear c3
        have hC3 := Kd.C_below H3.out HS.out.bel
        obtain ⟨ad3, e3, hx3⟩ := Kd.at_int hC3 n n0 (by omega)
        subst e3
        (try simp only [Nat.mul_one] at hx3)
        have i1 : (n < (l3.length : Int)) = True := eq_true c
        have i2 : (n.toNat < l3.length) = True := eq_true (by omega)
        obtain ⟨s5, hs5⟩ : ∃ s5 : St, s5 = S1 a0 a1 s (rd l3 n) := ⟨_, rfl⟩
        have hSa := sample_calls b a0 a1 (rd l3 n) s wr HS.out.it HS.out.ok.1 HS.out.ok.2.1 HS.out.ok.2.2.1 HS.out.ok.2.2.2.1 HR.out.1 (by have := HR.out; omega) HR.out.2.2.2
        have hrs := ref_sample a0 a1 (rd l3 n) s HR.out.1 (by have := HR.out; omega) HS.out.ok
        have hok := HS.out.ok.sample (by have := HR.out; omega) (rd l3 n)
        rw [← hs5] at hSa hrs hok
        have hbk : s5.bk = 0 := by rw [hs5]; rfl
        have hkn : s5.k = true := by rw [hs5]; rfl
        have b05 : 0 ≤ s5.bk := by omega
        have b15 : s5.bk ≤ n + 1 := by omega
        have HSa := Aside0.mk hSa
        have HRs := Aside0.mk hrs
        have HOk := Aside0.mk hok
        have HBK := Aside0.mk hbk
        have HKN := Aside0.mk hkn
        clear hs5 hSa hrs hok hbk hkn hC3
        go_upto_region 16 with (go_at_call 24; refine HSa.out.mono ?_; rintro e w2 ⟨⟨v, rfl⟩, hI2, hK2⟩; have HI2 := Aside0.mk hI2; have HK2 := Aside0.mk hK2; clear hI2 hK2)
        have HRB := Aside0.mk (towroperef20_Sample.calls 4 a0 a1 s.m s.v s.now s.bk s.k (rd l3 n) _ _ _ _ _ _ _ w2.drew ⟨by have := HR.out; omega⟩ HRs.out)
        have hC3 := Kd.C_below H3.out (HS.out.bel.trans (HK2.out.below HS.out.lb HS.out.bel.size))
        clear hx3
        obtain ⟨ad3', e3', hx3⟩ := Kd.at_int hC3 n n0 (by omega)
        obtain rfl := Option.some.inj e3'
        (try simp only [Nat.mul_one] at hx3)
        clear hC3
        obtain ⟨z0, z1, z2, z3, z4, z5, z6, y0, y1, y2, y3, y4, y5, y6⟩ := nine (HS.out.own2 HK2.out)
        clear y0 y1 y2 y3 y4 y5 y6
        go_still_tail 5, (by kernel_rfl)
        change wpList _ _ _ _ _ w2.drew
        clear z0 z1 z2 z3 z4 z5 z6 hx3
        go_upto_region 17 with (go_at_call 25; refine HRB.out.mono ?_; rintro e w3 ⟨rfl, hb3⟩; have HB3 := Aside0.mk (show Below w2.heap.size w2 w3 from ⟨hb3.os, hb3.tape, hb3.output, hb3.size, hb3.block⟩); obtain ⟨z0, z1, z2, z3, z4, z5, z6, y0, y1, y2, y3, y4, y5, y6⟩ := nine (HS.out.own3 HK2.out HB3.out); clear hb3)
        have hS5 := HS.out.next HI2.out HK2.out HB3.out HOk.out
        unfold put7 at hS5
        rw [show Value.int .i64 s5.bk = .int .i64 0 from by rw [HBK.out], show Value.bool s5.k = .bool true from by rw [HKN.out]] at hS5
        generalize (((((((w3.setCell ⟨gb, 0, none⟩ (.int .i64 a0)).setCell ⟨gb, 1, none⟩ (.int .i64 a1)).setCell ⟨gb, 2, none⟩ (.int .i64 s5.m)).setCell ⟨gb, 3, none⟩ (.int .i64 s5.v)).setCell ⟨gb, 4, none⟩ (.int .i64 s5.now)).setCell ⟨gb, 5, none⟩ (.int .i64 0)).setCell ⟨gb, 6, none⟩ (.bool true)) = w5 at hS5 ⊢
        have HS5 := Aside0.mk hS5
        clear hS5 z0 z1 z2 z3 z4 z5 z6 y0 y1 y2 y3 y4 y5 y6 HSa HRB HI2 HK2 HB3 i1 i2
        have HSm := Aside0.mk (smooth_calls b a0 a1 s5 w5 HS5.out.it HS5.out.ok.1 HS5.out.ok.2.1 HS5.out.ok.2.2.1 HS5.out.ok.2.2.2.1)
        go_upto_region 18 with (go_at_call 26; refine HSm.out.mono ?_; rintro e w' ⟨rfl, n', rfl⟩)
        have hS6 := HS5.out.drewN n'
        generalize w5.drewN n' = w6 at hS6 ⊢
        clear HS5 HSm
        have HS5 := Aside0.mk hS6
        clear hS6
        have t1 : decide (s5.now < a0) = false := decide_eq_false (by have := HS5.out.ok.2.2.2.2.1; omega)
        have t2 : decide (a1 < s5.now) = false := decide_eq_false (by have := HS5.out.ok.2.2.2.2.2; omega)
        have t3 : IntKind.i64.wrap (n + 1) = n + 1 := wid _ (by omega) (by omega)
        have v0 := HS5.out.ok.1
        have v1 := HS5.out.ok.2.1
        have v2 := HS5.out.ok.2.2.1
        have v3 := HS5.out.ok.2.2.2.1
        obtain ⟨z0, z1, z2, z3, z4, z5, z6, y0, y1, y2, y3, y4, y5, y6⟩ := nine HS5.out.own
        clear y0 y1 y2 y3 y4 y5 y6
        go_quiet (first | (go_at_call 21; exact Calls.quiet_of_same ((now_calls b a0 a1 s5 _ (by exact HS5.out.it)).mono (fun e w' h => ⟨h.1, h.2.symm⟩))) | (go_at_call 27; exact Calls.quiet_of_same ((backs_calls b a0 a1 s5 _ (by exact HS5.out.it)).mono (fun e w' h => ⟨h.1, h.2.symm⟩))))
        go_wp2
        go_roundw
        case rel => exact ⟨n + 1, rfl, ⟨by omega, by omega, s5, b05, b15, HS5.out.drewN _⟩⟩
        case measure => simp only [num]; omega
theorem towropelaw20_RtoPlays.calls (a0 a1 a2 : Int) (A3 : Option Addr) (c3 : Nat) (l3 : List Int) (A4 : Option Addr) (n4 c4 : Nat) (g4 : Nat → Bool) (w : World) (hr3 : Kd.C (Kd.int .i64) w A3 l3.length l3) (hc3 : l3.length ≤ c3) (hr4 : BRow w A4 n4 g4) :
    Calls Try.prog 4 #[.int .i64 a0, .int .i64 a1, .int .i64 a2, .slice A3 l3.length c3, .slice A4 n4 c4] w fun e w' => e = .returned (.bool true) ∧ Below w.heap.size w w' := by
  by_cases hl : 200 < l3.length
  · exact plays_many a0 a1 a2 A3 c3 l3 A4 n4 c4 w hl
  · by_cases hR : 1 ≤ a0 ∧ a0 ≤ a2 ∧ a2 ≤ a1 ∧ a1 ≤ 1073741824
    · exact plays_all a0 a1 a2 A3 c3 l3 A4 n4 c4 g4 w hr3 hc3 hr4 hl hR
    · exact plays_none a0 a1 a2 A3 c3 l3 A4 n4 c4 w hl hR
end Go.Proofs.Ytilkbmjkjlbfmaa.PRtoL
