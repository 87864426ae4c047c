/- rto: what a timer's functions do, for every timer (its bounds, what it holds), and for none. Conditions: each theorem's own. -/
import Derived.Test.YtilkbmjkjlbfmaaHExt
import Derived.StillTailTactics
import Derived.Outline
import Derived.WalkSpells
import Derived.WalkLawsBesides
namespace Go.Proofs.Ytilkbmjkjlbfmaa.HRto
open Go.RowKit Go.Proofs.YtilkbmjkjlbfmaaW.PrintWords Go.Proofs.YtilkbmjkjlbfmaaW.PrintLast Go.Proofs.YtilkbmjkjlbfmaaW.PrintMore
set_option linter.unusedVariables false
set_option linter.unusedSimpArgs false

theorem code_calls (n : Int) (w : World) : Calls Try.prog 20 #[.int .i64 n] w fun e w' => e = .returned (.int .i64 n) ∧ w = w' := by
  go_enter Try.func20, Try.ntmps20
  go_wp2
  go_ret
  exact ⟨rfl, rfl⟩
/-- What a timer holds beside its bounds. -/
structure St where
  m : Int
  v : Int
  k : Bool
  now : Int
  bk : Int
def cellsOf (lo hi : Int) (s : St) : Array Value := #[.int .i64 lo, .int .i64 hi, .int .i64 s.m, .int .i64 s.v, .bool s.k, .int .i64 s.now, .int .i64 s.bk]
def Is (w : World) (b : Nat) (lo hi : Int) (s : St) : Prop := w.heap[b]? = some (.cells (cellsOf lo hi s) 98 (0, 0))
theorem Is.cells {w : World} {b : Nat} {lo hi : Int} {s : St} (h : Is w b lo hi s) : w.cell? ⟨b, 0, none⟩ = some (.int .i64 lo) ∧ w.cell? ⟨b, 1, none⟩ = some (.int .i64 hi) ∧ w.cell? ⟨b, 2, none⟩ = some (.int .i64 s.m) ∧ w.cell? ⟨b, 3, none⟩ = some (.int .i64 s.v) ∧ w.cell? ⟨b, 4, none⟩ = some (.bool s.k) ∧ w.cell? ⟨b, 5, none⟩ = some (.int .i64 s.now) ∧ w.cell? ⟨b, 6, none⟩ = some (.int .i64 s.bk) :=
  ⟨(blk_cell h 0).trans rfl, (blk_cell h 1).trans rfl, (blk_cell h 2).trans rfl, (blk_cell h 3).trans rfl, (blk_cell h 4).trans rfl, (blk_cell h 5).trans rfl, (blk_cell h 6).trans rfl⟩
theorem Is.free {w : World} {b : Nat} {lo hi : Int} {s : St} (h : Is w b lo hi s) (i : Nat) : w.frozen? ⟨b, i, none⟩ = false := blk_frozen h i
/-- Only block b of what was there may have turned. -/
def Keep (b : Nat) (w w' : World) : Prop := (w'.os = w.os ∧ w'.tape = w.tape ∧ w'.output = w.output) ∧ w.heap.size ≤ w'.heap.size ∧ ∀ k, k < w.heap.size → k ≠ b → w'.heap[k]? = w.heap[k]?
theorem Keep.refl (b : Nat) (w : World) : Keep b w w := ⟨⟨rfl, rfl, rfl⟩, Nat.le_refl _, fun _ _ _ => rfl⟩
theorem Keep.set {b : Nat} {w w' : World} (h : Keep b w w') (i : Nat) (v : Value) : Keep b w (w'.setCell ⟨b, i, none⟩ v) := ⟨h.1, by simpa using h.2.1, fun k hk hb => (Below.heap_setCell w' ⟨b, i, none⟩ v k hb).trans (h.2.2 k hk hb)⟩
theorem Keep.drew {b : Nat} {w w' : World} (h : Keep b w w') : Keep b w w'.drew := h
theorem Keep.below {b n : Nat} {w w' : World} (h : Keep b w w') (hb : n ≤ b) (hn : n ≤ w.heap.size) : Below n w w' := ⟨h.1.1, h.1.2.1, h.1.2.2, h.2.1, fun k hk => h.2.2 k (by omega) (by omega)⟩
set_option maxRecDepth 100000 in
set_option maxHeartbeats 8000000 in
theorem now_calls (b : Nat) (lo hi : Int) (s : St) (w : World) (h : Is w b lo hi s) : Calls Try.prog 21 #[.pointer (some ⟨b, 0, none⟩)] w fun e w' => e = .returned (.int .i64 s.now) ∧ w = w' := by
  obtain ⟨h0, h1, h2, h3, h4, h5, h6⟩ := h.cells
  clear h
  go_enter Try.func21, Try.ntmps21
  go_wp2
  go_ret
  exact ⟨rfl, rfl⟩
theorem Is.now {w : World} {b : Nat} {lo hi : Int} {s : St} (h : Is w b lo hi s) (x : Int) : Is (w.setCell ⟨b, 5, none⟩ (.int .i64 x)) b lo hi { s with now := x } := blk_set h 5 _
theorem Is.bks {w : World} {b : Nat} {lo hi : Int} {s : St} (h : Is w b lo hi s) (x : Int) : Is (w.setCell ⟨b, 6, none⟩ (.int .i64 x)) b lo hi { s with bk := x } := blk_set h 6 _
set_option maxRecDepth 100000 in
set_option maxHeartbeats 8000000 in
theorem back_calls (b : Nat) (lo hi : Int) (s : St) (w : World) (h : Is w b lo hi s) (n0 : 0 ≤ s.now) (n1 : s.now ≤ 1073741824) (l0 : 0 ≤ hi) (l1 : hi ≤ 1073741824) (b0 : 0 ≤ s.bk) (b1 : s.bk ≤ 1000) :
    Calls Try.prog 22 #[.pointer (some ⟨b, 0, none⟩)] w fun e w' => (∃ v, e = .returned v) ∧ Is w' b lo hi { s with now := if hi < 2 * s.now then hi else 2 * s.now, bk := s.bk + 1 } ∧ Keep b w w' := by
  obtain ⟨h0, h1, h2, h3, h4, h5, h6⟩ := h.cells
  have f5 := h.free 5
  have f6 := h.free 6
  have HI := Aside0.mk h
  clear h
  have w1 : IntKind.i64.wrap (2 * s.now) = 2 * s.now := by simp [IntKind.wrap, IntKind.bits, IntKind.signed]; omega
  have w2 : IntKind.i64.wrap (s.bk + 1) = s.bk + 1 := by simp [IntKind.wrap, IntKind.bits, IntKind.signed]; omega
  go_enter Try.func22, Try.ntmps22
  go_wp2
  go_still_tail 13, (by kernel_rfl)
  change wpList _ _ _ _ _ w.drew
  go_wp2
  all_goals go_end0
  all_goals refine ⟨⟨_, rfl⟩, ?_, ?_⟩
  · exact ((HI.out.now _).bks _)
  · exact (((Keep.refl b w).set _ _).set _ _)
  · exact ((HI.out.now _).bks _)
  · exact (((Keep.refl b w).set _ _).set _ _)
set_option maxRecDepth 100000 in
set_option maxHeartbeats 8000000 in
theorem backs_calls (b : Nat) (lo hi : Int) (s : St) (w : World) (h : Is w b lo hi s) : Calls Try.prog 27 #[.pointer (some ⟨b, 0, none⟩)] w fun e w' => e = .returned (.int .i64 s.bk) ∧ w = w' := by
  obtain ⟨h0, h1, h2, h3, h4, h5, h6⟩ := h.cells
  clear h
  go_enter Try.func27, Try.ntmps27
  go_wp2
  go_ret
  exact ⟨rfl, rfl⟩
set_option maxRecDepth 100000 in
set_option maxHeartbeats 8000000 in
theorem smooth_calls (b : Nat) (lo hi : Int) (s : St) (w : World) (h : Is w b lo hi s) (m0 : 0 ≤ s.m) (m1 : s.m ≤ 8388608) (v0 : 0 ≤ s.v) (v1 : s.v ≤ 4194304) : Calls Try.prog 26 #[.pointer (some ⟨b, 0, none⟩)] w fun e w' => e = .returned (.tuple #[.int .i64 (s.m / 8), .int .i64 (s.v / 4)]) ∧ ∃ n, w' = w.drewN n := by
  obtain ⟨h0, h1, h2, h3, h4, h5, h6⟩ := h.cells
  clear h
  go_enter Try.func26, Try.ntmps26
  go_wp2
  go_quiet (fail)
  go_wp2
  go_ret2
  exact ⟨rfl, _, rfl⟩
set_option maxRecDepth 100000 in
set_option maxHeartbeats 8000000 in
theorem within_calls (n lo hi : Int) (w : World) (c : lo ≤ hi) : Calls Try.prog 60 #[.int .i64 n, .int .i64 lo, .int .i64 hi] w fun e w' => e = .returned (.int .i64 (if n < lo then lo else if hi < n then hi else n)) ∧ w = w' := by
  by_cases c1 : n < lo
  · rw [if_pos c1]
    go_enter Try.func60, Try.ntmps60
    go_wp2
    go_ret
    exact ⟨rfl, rfl⟩
  rw [if_neg c1]
  by_cases c2 : hi < n
  · rw [if_pos c2]
    go_enter Try.func60, Try.ntmps60
    go_wp2
    go_ret
    exact ⟨rfl, rfl⟩
  · rw [if_neg c2]
    go_enter Try.func60, Try.ntmps60
    go_wp2
    go_ret
    exact ⟨rfl, rfl⟩
set_option maxRecDepth 100000 in
set_option maxHeartbeats 8000000 in
theorem new_calls (lo hi first : Int) (w : World) (h : 1 ≤ lo ∧ lo ≤ first ∧ first ≤ hi ∧ hi ≤ 1073741824) : Calls Try.prog 18 #[.int .i64 lo, .int .i64 hi, .int .i64 first] w fun e w' => ∃ b, e = .returned (.tuple #[.pointer (some ⟨b, 0, none⟩), .int .i64 0]) ∧ b = w.heap.size ∧ Is w' b lo hi ⟨0, 0, false, first, 0⟩ ∧ Below w.heap.size w w' := by
  have c1 : decide (lo < 1) = false := decide_eq_false (by omega)
  have c2 : decide (first < lo) = false := decide_eq_false (by omega)
  have c3 : decide (hi < first) = false := decide_eq_false (by omega)
  have c4 : decide (1073741824 < hi) = false := decide_eq_false (by omega)
  clear h
  go_enter Try.func18, Try.ntmps18
  go_wp2
  go_ret2
  exact ⟨_, rfl, rfl, Go.heap_alloc_new _ _, (Below.refl _ _).alloc (Nat.le_refl _) _⟩
set_option maxRecDepth 100000 in
set_option maxHeartbeats 8000000 in
theorem new_none (lo hi first : Int) (w : World) (h : ¬ (1 ≤ lo ∧ lo ≤ first ∧ first ≤ hi ∧ hi ≤ 1073741824)) : Calls Try.prog 18 #[.int .i64 lo, .int .i64 hi, .int .i64 first] w fun e w' => e = .returned (.tuple #[.pointer none, .int .i64 1]) ∧ w = w' := by
  by_cases c1 : lo < 1
  · have d1 : decide (lo < 1) = true := decide_eq_true c1
    clear h
    go_enter Try.func18, Try.ntmps18
    go_wp2
    go_ret2
    exact ⟨rfl, rfl⟩
  have d1 : decide (lo < 1) = false := decide_eq_false c1
  by_cases c2 : first < lo
  · have d2 : decide (first < lo) = true := decide_eq_true c2
    clear h
    go_enter Try.func18, Try.ntmps18
    go_wp2
    go_ret2
    exact ⟨rfl, rfl⟩
  have d2 : decide (first < lo) = false := decide_eq_false c2
  by_cases c3 : hi < first
  · have d3 : decide (hi < first) = true := decide_eq_true c3
    clear h
    go_enter Try.func18, Try.ntmps18
    go_wp2
    go_ret2
    exact ⟨rfl, rfl⟩
  have d3 : decide (hi < first) = false := decide_eq_false c3
  have d4 : decide (1073741824 < hi) = true := decide_eq_true (by omega)
  clear h
  go_enter Try.func18, Try.ntmps18
  go_wp2
  go_ret2
  exact ⟨rfl, rfl⟩
/-- P20.1: what a sample makes of a timer. -/
def S1 (lo hi : Int) (s : St) (x : Int) : St :=
  let t := if x < 0 then 0 else if 1048576 < x then 1048576 else x
  let m := if s.k then s.m + (t - s.m / 8) else 8 * t
  let d := t - s.m / 8
  let v := if s.k then s.v + ((if d < 0 then -d else d) - s.v / 4) else 2 * t
  let q := m / 8 + (if v < 1 then 1 else v)
  ⟨m, v, true, if q < lo then lo else if hi < q then hi else q, 0⟩
set_option maxRecDepth 100000 in
set_option maxHeartbeats 8000000 in
theorem size_calls (n : Int) (w : World) (n0 : -4611686018427387904 ≤ n) (n1 : n ≤ 4611686018427387904) : Calls Try.prog 61 #[.int .i64 n] w fun e w' => e = .returned (.int .i64 (if n < 0 then -n else n)) ∧ w = w' := by
  have w1 : IntKind.i64.wrap (-n) = -n := by simp [IntKind.wrap, IntKind.bits, IntKind.signed]; omega
  by_cases c1 : n < 0
  · rw [if_pos c1]
    go_enter Try.func61, Try.ntmps61
    go_wp2
    all_goals first | omega | skip
    all_goals go_ret
    all_goals first | exact ⟨rfl, rfl⟩ | omega
  · rw [if_neg c1]
    go_enter Try.func61, Try.ntmps61
    go_wp2
    all_goals first | omega | skip
    all_goals go_ret
    all_goals first | exact ⟨rfl, rfl⟩ | omega
theorem Is.ms {w : World} {b : Nat} {lo hi : Int} {s : St} (h : Is w b lo hi s) (x : Int) : Is (w.setCell ⟨b, 2, none⟩ (.int .i64 x)) b lo hi { s with m := x } := blk_set h 2 _
theorem Is.vs {w : World} {b : Nat} {lo hi : Int} {s : St} (h : Is w b lo hi s) (x : Int) : Is (w.setCell ⟨b, 3, none⟩ (.int .i64 x)) b lo hi { s with v := x } := blk_set h 3 _
theorem Is.ks {w : World} {b : Nat} {lo hi : Int} {s : St} (h : Is w b lo hi s) (x : Bool) : Is (w.setCell ⟨b, 4, none⟩ (.bool x)) b lo hi { s with k := x } := blk_set h 4 _
theorem wid (n : Int) (h0 : -4611686018427387904 ≤ n) (h1 : n ≤ 4611686018427387904) : IntKind.i64.wrap n = n := by simp [IntKind.wrap, IntKind.bits, IntKind.signed]; omega
set_option maxRecDepth 100000 in
set_option maxHeartbeats 8000000 in
theorem sample_calls (b : Nat) (lo hi x : Int) (s : St) (w : World) (h : Is w b lo hi s) (m0 : 0 ≤ s.m) (m1 : s.m ≤ 8388608) (v0 : 0 ≤ s.v) (v1 : s.v ≤ 4194304) (l0 : 1 ≤ lo) (l1 : lo ≤ hi) (l2 : hi ≤ 1073741824) :
    Calls Try.prog 24 #[.pointer (some ⟨b, 0, none⟩), .int .i64 x] w fun e w' => (∃ v, e = .returned v) ∧ Is w' b lo hi (S1 lo hi s x) ∧ Keep b w w' := by
  obtain ⟨h0, h1, h2, h3, h4, h5, h6⟩ := h.cells
  have f2 := h.free 2
  have f3 := h.free 3
  have f4 := h.free 4
  have f5 := h.free 5
  have f6 := h.free 6
  have HI := Aside0.mk h
  clear h
  obtain ⟨t, ht⟩ : ∃ t, t = (if x < 0 then 0 else if 1048576 < x then 1048576 else x) := ⟨_, rfl⟩
  have t0 : 0 ≤ t := by rw [ht]; (repeat' split) <;> omega
  have t1 : t ≤ 1048576 := by rw [ht]; (repeat' split) <;> omega
  unfold S1
  simp only []
  rw [← ht]
  have HT := Aside0.mk (show Calls Try.prog 60 #[.int .i64 x, .int .i64 0, .int .i64 1048576] w fun e w' => e = .returned (.int .i64 t) ∧ w = w' by rw [ht]; exact within_calls x 0 1048576 w (by omega))
  clear ht
  cases hk : s.k with
  | true =>
    rw [hk] at h4
    simp only [if_true]
    obtain ⟨z, hz⟩ : ∃ z, z = (if t - s.m / 8 < 0 then -(t - s.m / 8) else t - s.m / 8) := ⟨_, rfl⟩
    have z0 : 0 ≤ z := by rw [hz]; split <;> omega
    have z1 : z ≤ 1048576 := by rw [hz]; split <;> omega
    have HZ := fun w => Aside0.mk (show Calls Try.prog 61 #[.int .i64 (t - s.m / 8)] w fun e w' => e = .returned (.int .i64 z) ∧ w = w' by rw [hz]; exact size_calls (t - s.m / 8) w (by omega) (by omega))
    rw [← hz]
    clear hz
    obtain ⟨M, hM⟩ : ∃ M, M = s.m + (t - s.m / 8) := ⟨_, rfl⟩
    obtain ⟨V, hV⟩ : ∃ V, V = s.v + (z - s.v / 4) := ⟨_, rfl⟩
    have M0 : 0 ≤ M := by omega
    have M1 : M ≤ 8388608 := by omega
    have V0 : 0 ≤ V := by omega
    have V1 : V ≤ 4194304 := by omega
    rw [← hM, ← hV]
    have HM := Aside0.mk hM
    have HV := Aside0.mk hV
    clear hM hV
    obtain ⟨q, hq⟩ : ∃ q, q = M / 8 + (if V < 1 then 1 else V) := ⟨_, rfl⟩
    rw [← hq]
    have q0 : 0 ≤ q := by rw [hq]; split <;> omega
    have q1 : q ≤ 8388608 := by rw [hq]; split <;> omega
    obtain ⟨u, hu⟩ : ∃ u, u = (if q < lo then lo else if hi < q then hi else q) := ⟨_, rfl⟩
    have HU := fun w => Aside0.mk (show Calls Try.prog 60 #[.int .i64 q, .int .i64 lo, .int .i64 hi] w fun e w' => e = .returned (.int .i64 u) ∧ w' = w by rw [hu]; exact (within_calls q lo hi w l1).mono (fun e w' h => ⟨h.1, h.2.symm⟩))
    rw [← hu]
    clear hu
    have HQ := Aside0.mk hq
    clear hq
    have e1 : IntKind.i64.wrap (t - s.m / 8) = t - s.m / 8 := wid _ (by omega) (by omega)
    have e2 : IntKind.i64.wrap (s.m + (t - s.m / 8)) = s.m + (t - s.m / 8) := wid _ (by omega) (by omega)
    have e3 : IntKind.i64.wrap (z - s.v / 4) = z - s.v / 4 := wid _ (by omega) (by omega)
    have e4 : IntKind.i64.wrap (s.v + (z - s.v / 4)) = s.v + (z - s.v / 4) := wid _ (by omega) (by omega)
    go_enter Try.func24, Try.ntmps24
    go_upto_if 2 with (go_at_call 60; refine HT.out.mono ?_; rintro e w' ⟨rfl, rfl⟩)
    have I5 := HI.out.ms (s.m + (t - s.m / 8))
    have K5 := (Keep.refl b w).set 2 (.int .i64 (s.m + (t - s.m / 8)))
    generalize w.setCell ⟨b, 2, none⟩ (.int .i64 (s.m + (t - s.m / 8))) = w5 at I5 K5 ⊢
    clear h0 h1 h2 h3 h4 h5 h6 f2 f3 f4 f5 f6 HI
    obtain ⟨h0, h1, h2, h3, h4, h5, h6⟩ := I5.cells
    have f3 := I5.free 3
    have HI := Aside0.mk I5
    have HK := Aside0.mk K5
    clear I5 K5
    simp only [] at h2 h3 h4 h5 h6
    go_still_tail 15, (by kernel_rfl)
    still_call ((HZ _).out.mono (fun e w' h => ⟨h.1, h.2.symm⟩))
    repeat still_step
    refine wpStill_nil ?_
    change wpList _ _ _ _ _ w5.drew
    have I6 : Is w5.drew b lo hi _ := HI.out
    have K6 : Keep b w w5.drew := HK.out
    clear h0 h1 h2 h3 h4 h5 h6 f3 HI HK
    generalize w5.drew = w6 at I6 K6 ⊢
    obtain ⟨h0, h1, h2, h3, h4, h5, h6⟩ := I6.cells
    have f3 := I6.free 3
    have HI := Aside0.mk I6
    have HK := Aside0.mk K6
    clear I6 K6
    simp only [] at h2 h3 h4 h5 h6
    go_upto_region 8 with (fail)
    have I7 := HI.out.vs (s.v + (z - s.v / 4))
    have K7 := HK.out.set 3 (.int .i64 (s.v + (z - s.v / 4)))
    clear f3
    clear h0 h1 h2 h3 h4 h5 h6 HI HK
    generalize (w6.setCell ⟨b, 3, none⟩ (.int .i64 (s.v + (z - s.v / 4)))) = w7 at I7 K7 ⊢
    rw [← HM.out, ← HV.out] at I7
    obtain ⟨h0, h1, h2, h3, h4, h5, h6⟩ := I7.cells
    have f5 := I7.free 5
    have f6 := I7.free 6
    have HI := Aside0.mk I7
    have HK := Aside0.mk K7
    clear I7 K7
    simp only [] at h2 h3 h4 h5 h6
    have HA : Aside0 (IntKind.i64.wrap (IntKind.i64.wrap (M.tdiv 8) + if V < 1 then 1 else V) = q) := ⟨by rw [Int.tdiv_eq_ediv_of_nonneg M0, wid (M / 8) (by omega) (by omega), ← HQ.out, wid _ (by omega) (by omega)]⟩
    go_still_tail 22, (by kernel_rfl)
    still_call (by rw [HA.out]; exact (HU _).out)
    refine wpStill_nil ?_
    change wpList _ _ _ _ _ w7.drew
    have I8 : Is w7.drew b lo hi _ := HI.out
    have K8 : Keep b w w7.drew := HK.out
    clear h0 h1 h2 h3 h4 h5 h6 f5 f6 HI HK
    generalize w7.drew = w8 at I8 K8 ⊢
    have f5 := I8.free 5
    have f6 := I8.free 6
    have h5 := I8.cells.2.2.2.2.2.1
    have h6 := I8.cells.2.2.2.2.2.2
    have HI := Aside0.mk I8
    have HK := Aside0.mk K8
    clear I8 K8
    go_wp2
    all_goals go_end0
    all_goals exact ⟨⟨_, rfl⟩, by have := (HI.out.now u).bks 0; rw [hk] at this; exact this, (HK.out.set _ _).set _ _⟩
  | false =>
    rw [hk] at h4
    simp only [Bool.false_eq_true, if_false]
    obtain ⟨M, hM⟩ : ∃ M, M = 8 * t := ⟨_, rfl⟩
    obtain ⟨V, hV⟩ : ∃ V, V = 2 * t := ⟨_, rfl⟩
    have M0 : 0 ≤ M := by omega
    have M1 : M ≤ 8388608 := by omega
    have V0 : 0 ≤ V := by omega
    have V1 : V ≤ 4194304 := by omega
    rw [← hM, ← hV]
    have HM := Aside0.mk hM
    have HV := Aside0.mk hV
    clear hM hV
    obtain ⟨q, hq⟩ : ∃ q, q = M / 8 + (if V < 1 then 1 else V) := ⟨_, rfl⟩
    rw [← hq]
    have q0 : 0 ≤ q := by rw [hq]; split <;> omega
    have q1 : q ≤ 8388608 := by rw [hq]; split <;> omega
    obtain ⟨u, hu⟩ : ∃ u, u = (if q < lo then lo else if hi < q then hi else q) := ⟨_, rfl⟩
    have HU := fun w => Aside0.mk (show Calls Try.prog 60 #[.int .i64 q, .int .i64 lo, .int .i64 hi] w fun e w' => e = .returned (.int .i64 u) ∧ w' = w by rw [hu]; exact (within_calls q lo hi w l1).mono (fun e w' h => ⟨h.1, h.2.symm⟩))
    rw [← hu]
    clear hu
    have HQ := Aside0.mk hq
    clear hq
    have e1 : IntKind.i64.wrap (8 * t) = 8 * t := wid _ (by omega) (by omega)
    have e2 : IntKind.i64.wrap (2 * t) = 2 * t := wid _ (by omega) (by omega)
    go_enter Try.func24, Try.ntmps24
    go_upto_if 2 with (go_at_call 60; refine HT.out.mono ?_; rintro e w' ⟨rfl, rfl⟩)
    have I7 := ((HI.out.ms (8 * t)).vs (2 * t)).ks true
    have HK := Aside0.mk (Keep.refl b w)
    have K7 := (((Keep.refl b w).set 2 (.int .i64 (8 * t))).set 3 (.int .i64 (2 * t))).set 4 (.bool true)
    clear f2 f3 f4 f5 f6
    clear h0 h1 h2 h3 h4 h5 h6 HI HK
    generalize (((w.setCell ⟨b, 2, none⟩ (.int .i64 (8 * t))).setCell ⟨b, 3, none⟩ (.int .i64 (2 * t))).setCell ⟨b, 4, none⟩ (.bool true)) = w7 at I7 K7 ⊢
    rw [← HM.out, ← HV.out] at I7
    obtain ⟨h0, h1, h2, h3, h4, h5, h6⟩ := I7.cells
    have f5 := I7.free 5
    have f6 := I7.free 6
    have HI := Aside0.mk I7
    have HK := Aside0.mk K7
    clear I7 K7
    simp only [] at h2 h3 h4 h5 h6
    have HA : Aside0 (IntKind.i64.wrap (IntKind.i64.wrap (M.tdiv 8) + if V < 1 then 1 else V) = q) := ⟨by rw [Int.tdiv_eq_ediv_of_nonneg M0, wid (M / 8) (by omega) (by omega), ← HQ.out, wid _ (by omega) (by omega)]⟩
    go_still_tail 22, (by kernel_rfl)
    still_call (by rw [HA.out]; exact (HU _).out)
    refine wpStill_nil ?_
    change wpList _ _ _ _ _ w7.drew
    have I8 : Is w7.drew b lo hi _ := HI.out
    have K8 : Keep b w w7.drew := HK.out
    clear h0 h1 h2 h3 h4 h5 h6 f5 f6 HI HK
    generalize w7.drew = w8 at I8 K8 ⊢
    have f5 := I8.free 5
    have f6 := I8.free 6
    have h5 := I8.cells.2.2.2.2.2.1
    have h6 := I8.cells.2.2.2.2.2.2
    have HI := Aside0.mk I8
    have HK := Aside0.mk K8
    clear I8 K8
    go_wp2
    all_goals go_end0
    all_goals exact ⟨⟨_, rfl⟩, by have := (HI.out.now u).bks 0; exact this, (HK.out.set _ _).set _ _⟩
set_option maxRecDepth 100000 in
set_option maxHeartbeats 1000000 in
theorem sample_nil (x : Int) (w : World) : Calls Try.prog 24 #[.pointer none, .int .i64 x] w fun e w' => (∃ v, e = .returned v) ∧ w = w' := by
  go_enter Try.func24, Try.ntmps24
  go_wp2
  (try simp only [Exit.inBlock, Exit.then]); refine bodyPost_ret (results_none rfl _ _ _) rfl ?_
  exact ⟨⟨_, rfl⟩, rfl⟩
set_option maxRecDepth 100000 in
set_option maxHeartbeats 1000000 in
theorem back_nil (w : World) : Calls Try.prog 22 #[.pointer none] w fun e w' => (∃ v, e = .returned v) ∧ w = w' := by
  go_enter Try.func22, Try.ntmps22
  go_wp2
  (try simp only [Exit.inBlock, Exit.then]); refine bodyPost_ret (results_none rfl _ _ _) rfl ?_
  exact ⟨⟨_, rfl⟩, rfl⟩
set_option maxRecDepth 100000 in
set_option maxHeartbeats 1000000 in
theorem smooth_nil (w : World) : Calls Try.prog 26 #[.pointer none] w fun e w' => e = .returned (.tuple #[.int .i64 0, .int .i64 0]) ∧ w = w' := by
  go_enter Try.func26, Try.ntmps26
  go_wp2
  go_ret2
  exact ⟨rfl, rfl⟩
set_option maxRecDepth 100000 in
set_option maxHeartbeats 1000000 in
theorem now_nil (w : World) : Calls Try.prog 21 #[.pointer none] w fun e w' => e = .returned (.int .i64 0) ∧ w = w' := by
  go_enter Try.func21, Try.ntmps21
  go_wp2
  go_ret
  exact ⟨rfl, rfl⟩
set_option maxRecDepth 100000 in
set_option maxHeartbeats 1000000 in
theorem backs_nil (w : World) : Calls Try.prog 27 #[.pointer none] w fun e w' => e = .returned (.int .i64 0) ∧ w = w' := by
  go_enter Try.func27, Try.ntmps27
  go_wp2
  go_ret
  exact ⟨rfl, rfl⟩
end Go.Proofs.Ytilkbmjkjlbfmaa.HRto
