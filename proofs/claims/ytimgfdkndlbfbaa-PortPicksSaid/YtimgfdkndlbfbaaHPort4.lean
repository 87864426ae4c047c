/- port.New, port.Pick. Conditions: each theorem's own. -/
import Derived.Test.YtimgfdkndlbfbaaHPort3
import Derived.Carry
namespace Go.Proofs.Ytimgfdkndlbfbaa.HPort
open Go.RowKit Go.Proofs.YtimgfdkndlbfbaaW.PrintWords Go.Proofs.YtimgfdkndlbfbaaW.PrintLast Go.Proofs.YtimgfdkndlbfbaaW.PrintMore Go.Proofs.Ytimgfdkndlbfbaa.HMap Go.Maps Go.Proofs.Ytimgfdkndlbfbaa.HReg
set_option linter.unusedVariables false
set_option linter.unusedSimpArgs false
def ts0 (low high : Int) : TS := ⟨low, high, high, fun _ => none, 0, fun _ => none, fun _ => none, 0⟩
theorem tb_new (w : World) (low high : Int) : Tb w.heap.size ((((w.alloc (.map #[] 0)).alloc (.map #[] 0)).alloc (.map #[] 0)).alloc (.cells #[.int .i64 low, .int .i64 high, .int .i64 high, .map (some w.heap.size), .map (some (w.heap.size + 1)), .map (some (w.heap.size + 1 + 1))] 167)) (w.heap.size + 1 + 1 + 1) w.heap.size (w.heap.size + 1) (w.heap.size + 1 + 1) (ts0 low high) := by
  have h1 := Mf.made kE (Value.int .i64) w
  have h2 := Mf.made kP (Value.int .i64) (w.alloc (.map #[] 0))
  have h3 := Mf.made kQ (Value.int .i64) ((w.alloc (.map #[] 0)).alloc (.map #[] 0))
  have b1 := fun (W : World) (o : Obj) => below_alloc (Below.refl W.heap.size W) o
  have z1 : (w.alloc (.map #[] 0)).heap.size = w.heap.size + 1 := by simp
  have z2 : ((w.alloc (.map #[] 0)).alloc (.map #[] 0)).heap.size = w.heap.size + 1 + 1 := by simp
  have z3 : (((w.alloc (.map #[] 0)).alloc (.map #[] 0)).alloc (.map #[] 0)).heap.size = w.heap.size + 1 + 1 + 1 := by simp
  rw [z1] at h2
  rw [z2] at h3
  refine ⟨?_, ⟨by omega, by omega, by omega, by omega⟩, ⟨by omega, by omega, by omega⟩, ((h1.below (b1 _ _)).below (b1 _ _)).below (b1 _ _), ⟨0, (h2.below (b1 _ _)).below (b1 _ _)⟩, h3.below (b1 _ _)⟩
  have := blk_new (((w.alloc (.map #[] 0)).alloc (.map #[] 0)).alloc (.map #[] 0)) (.cells #[.int .i64 low, .int .i64 high, .int .i64 high, .map (some w.heap.size), .map (some (w.heap.size + 1)), .map (some (w.heap.size + 1 + 1))] 167)
  rw [z3] at this
  exact this
set_option maxRecDepth 100000 in
set_option maxHeartbeats 4000000 in
theorem new_good (low high : Int) (w : World) (h0 : 1 ≤ low) (h1 : low ≤ high) (h2 : high ≤ 65535) : Calls Try.prog 45 #[.int .i64 low, .int .i64 high] w fun e w' => ∃ b mb ma mj, e = .returned (.tuple #[.pointer (some ⟨b, 0, none⟩), .int .i64 0]) ∧ Tb w.heap.size w' b mb ma mj (ts0 low high) ∧ Below w.heap.size w w' := by
  have d0 : decide (low < 1) = false := decide_eq_false (by omega)
  have d1 : decide (high < low) = false := decide_eq_false (by omega)
  have d2 : decide (65535 < high) = false := decide_eq_false (by omega)
  have hmm := @run_makeMap Try.prog
  clear h0 h1 h2
  go_enter Try.func45, Try.ntmps45
  go_wp2
  go_ret2
  refine ⟨w.heap.size + 1 + 1 + 1, w.heap.size, w.heap.size + 1, w.heap.size + 1 + 1, rfl, tb_new w low high, ?_⟩
  exact ((((Below.refl _ _).alloc (Nat.le_refl _) _).alloc (by simp) _).alloc (by simp; omega) _).alloc (by simp; omega) _
theorem new_bad (low high : Int) (w : World) (h : low < 1 ∨ high < low ∨ 65535 < high) : Calls Try.prog 45 #[.int .i64 low, .int .i64 high] w fun e w' => e = .returned (.tuple #[.pointer none, .int .i64 1]) ∧ w = w' := by
  have hd : decide (low < 1) = true ∨ (decide (low < 1) = false ∧ decide (high < low) = true) ∨ (decide (low < 1) = false ∧ decide (high < low) = false ∧ decide (65535 < high) = true) := by
    simp only [decide_eq_true_eq, decide_eq_false_iff_not]
    omega
  clear h
  rcases hd with d0 | ⟨d0, d1⟩ | ⟨d0, d1, d2⟩
  all_goals
    go_enter Try.func45, Try.ntmps45
    go_wp2
    go_ret2
    exact ⟨rfl, rfl⟩
/-- A table's ports. -/
structure Ps (s : TS) : Prop where
  l0 : 1 ≤ s.low
  lh : s.low ≤ s.high
  h1 : s.high ≤ 65535
  a0 : s.low ≤ s.last
  a1 : s.last ≤ s.high
/-- The k-th port that is tried. -/
def pAt (s : TS) (k : Nat) : Int := s.low + (s.last - s.low + 1 + k) % (s.high - s.low + 1)
theorem Ps.at_ {s : TS} (h : Ps s) (k : Nat) : s.low ≤ pAt s k ∧ pAt s k ≤ s.high := by
  have := h.lh
  unfold pAt
  have h1 := Int.emod_nonneg (s.last - s.low + 1 + k) (show s.high - s.low + 1 ≠ 0 by omega)
  have h2 := Int.emod_lt_of_pos (s.last - s.low + 1 + k) (show 0 < s.high - s.low + 1 by omega)
  omega
theorem Ps.wf {s : TS} (h : Ps s) (k : Nat) : (Lit.int .u16 (pAt s k)).wf = true := by
  have h1 := h.at_ k
  have h2 := h.l0
  have h3 := h.h1
  simp [Lit.wf, IntKind.min, IntKind.max, IntKind.bits, IntKind.signed]
  omega
def num : Value → Nat
  | .int _ n => n.toNat
  | _ => 0
set_option maxRecDepth 100000 in
set_option maxHeartbeats 8000000 in
theorem pick_at {b0 b mb ma mj : Nat} {w : World} {s : TS} (h : Tb b0 w b mb ma mj s) (a : Int) (k0 : Nat) (hs : Ps s) (ha : (Lit.int .u32 a).wf = true ∧ (k0 : Int) < s.high - s.low + 1) (hf : takenF s a (pAt s k0) = false ∧ ∀ j, j < k0 → takenF s a (pAt s j) = true) :
    Calls Try.prog 54 #[.pointer (some ⟨b, 0, none⟩), .int .u32 a] w fun e w' => e = .returned (.tuple #[.int .u16 (pAt s k0), .int .i64 0]) ∧ Tb b0 w' b mb ma mj { s with last := pAt s k0 } ∧ Tv w w' b mb ma mj := by
  have n0 := hs.l0; have n1 := hs.lh; have n2 := hs.h1; have n3 := hs.a0; have n4 := hs.a1
  obtain ⟨n, hn⟩ : ∃ n : Nat, s.high - s.low + 1 = (n : Int) := ⟨(s.high - s.low + 1).toNat, by omega⟩
  have w0 : IntKind.i64.wrap (s.high - s.low) = s.high - s.low := wid _ (by omega) (by omega)
  have w1 : IntKind.i64.wrap (s.high - s.low + 1) = (n : Int) := by rw [wid _ (by omega) (by omega), hn]
  have w2 : IntKind.i64.wrap (s.last - s.low) = s.last - s.low := wid _ (by omega) (by omega)
  have w3 : IntKind.i64.wrap (s.last - s.low + 1) = s.last - s.low + 1 := wid _ (by omega) (by omega)
  have HS := Aside0.mk hs
  have HN := Aside0.mk hn
  have HT := Aside0.mk h
  have HA := Aside0.mk ha
  have HF := Aside0.mk hf
  clear hs h ha hf n0 n1 n2 n3 n4 hn
  go_enter Try.func54, Try.ntmps54
  go_upto_region 3 with (fail)
  refine start_ (n := 11) (S := fun w' => Tb b0 w' b mb ma mj s) (ds := []) (bb 11 0) (by kernel_rfl) rfl rfl (HT.out.below (below_drew (Below.refl _ _))) (fun hHeld => ?_)
  have HI : Aside0 (Tb b0 w.drew b mb ma mj s ∧ Below w.heap.size w w.drew) := ⟨HT.out.below (below_drew (Below.refl _ _)), below_drew (Below.refl _ _)⟩
  refine pure_ (i := 0) (N := some 11) (v := ?_) (a' := ?_) (bb 11 1) rfl rfl (by kernel_rfl) (fun _ _ _ h => h) (Or.inl ⟨by rfl, ?_⟩) ?_ ?_
  rotate_left
  · intro w'
    go_simp
    with_reducible rfl
  rotate_left
  · simp only [Act.put, List.setIfInBounds_toArray, List.set_cons_zero, List.set_cons_succ, i64_w, i32_w]
    rfl
  refine pure_ (i := 1) (N := some 12) (v := ?_) (a' := ?_) (bb 11 3) rfl rfl (by kernel_rfl) (fun _ _ _ h => h) (Or.inl ⟨by rfl, ?_⟩) ?_ ?_
  rotate_left
  · intro w'
    go_simp
    with_reducible rfl
  rotate_left
  · simp only [Act.put, List.setIfInBounds_toArray, List.set_cons_zero, List.set_cons_succ, i64_w, i32_w]
    rfl
  refine pure_ (i := 2) (N := some 13) (v := ?_) (a' := ?_) (bb 11 7) rfl rfl (by kernel_rfl) (fun _ _ _ h => h) (Or.inl ⟨by rfl, ?_⟩) ?_ ?_
  rotate_left
  · intro w'
    go_simp
    with_reducible rfl
  rotate_left
  · simp only [Act.put, List.setIfInBounds_toArray, List.set_cons_zero, List.set_cons_succ, i64_w, i32_w]
    rfl
  refine take_ (i := 3) (N := some 14) (v := ?_) (a' := ?_) (bb 11 15) rfl rfl (by kernel_rfl) (fun _ _ _ h => h) (Or.inl ⟨by rfl, ?_⟩) hHeld ?_ ?_
  rotate_left
  · intro w' hSw
    obtain ⟨t0, t1, t2, t3, t4, t5, -⟩ := hSw.cells
    go_simp
    with_reducible rfl
  rotate_left
  · simp only [Act.put, List.setIfInBounds_toArray, List.set_cons_zero, List.set_cons_succ, i64_w, i32_w]
    rfl
  refine pure_ (i := 4) (N := some 15) (v := ?_) (a' := ?_) (bb 11 31) rfl rfl (by kernel_rfl) (fun _ _ _ h => h) (Or.inl ⟨by rfl, ?_⟩) ?_ ?_
  rotate_left
  · intro w'
    go_simp
    with_reducible rfl
  rotate_left
  · simp only [Act.put, List.setIfInBounds_toArray, List.set_cons_zero, List.set_cons_succ, i64_w, i32_w]
    rfl
  refine pure_ (i := 5) (N := some 16) (v := ?_) (a' := ?_) (bb 11 63) rfl rfl (by kernel_rfl) (fun _ _ _ h => h) (Or.inl ⟨by rfl, ?_⟩) ?_ ?_
  rotate_left
  · intro w'
    go_simp
    with_reducible rfl
  rotate_left
  · simp only [Act.put, List.setIfInBounds_toArray, List.set_cons_zero, List.set_cons_succ, i64_w, i32_w]
    rfl
  refine pure_ (i := 6) (N := some 17) (v := ?_) (a' := ?_) (bb 11 127) rfl rfl (by kernel_rfl) (fun _ _ _ h => h) (Or.inl ⟨by rfl, ?_⟩) ?_ ?_
  rotate_left
  · intro w'
    go_simp
    with_reducible rfl
  rotate_left
  · simp only [Act.put, List.setIfInBounds_toArray, List.set_cons_zero, List.set_cons_succ, i64_w, i32_w]
    rfl
  refine take_ (i := 7) (N := some 18) (v := ?_) (a' := ?_) (bb 11 255) rfl rfl (by kernel_rfl) (fun _ _ _ h => h) (Or.inl ⟨by rfl, ?_⟩) hHeld ?_ ?_
  rotate_left
  · intro w' hSw
    obtain ⟨t0, t1, t2, t3, t4, t5, -⟩ := hSw.cells
    go_simp
    with_reducible rfl
  rotate_left
  · simp only [Act.put, List.setIfInBounds_toArray, List.set_cons_zero, List.set_cons_succ, i64_w, i32_w]
    rfl
  refine pure_ (i := 8) (N := some 19) (v := ?_) (a' := ?_) (bb 11 511) rfl rfl (by kernel_rfl) (fun _ _ _ h => h) (Or.inl ⟨by rfl, ?_⟩) ?_ ?_
  rotate_left
  · intro w'
    go_simp
    with_reducible rfl
  rotate_left
  · simp only [Act.put, List.setIfInBounds_toArray, List.set_cons_zero, List.set_cons_succ, i64_w, i32_w]
    rfl
  refine pure_ (i := 9) (N := some 20) (v := ?_) (a' := ?_) (bb 11 1023) rfl rfl (by kernel_rfl) (fun _ _ _ h => h) (Or.inl ⟨by rfl, ?_⟩) ?_ ?_
  rotate_left
  · intro w'
    go_simp
    with_reducible rfl
  rotate_left
  · simp only [Act.put, List.setIfInBounds_toArray, List.set_cons_zero, List.set_cons_succ, i64_w, i32_w]
    rfl
  refine pure_ (i := 10) (N := some 6) (v := ?_) (a' := ?_) (bb 11 2047) rfl rfl (by kernel_rfl) (fun _ _ _ h => h) (Or.inl ⟨by rfl, ?_⟩) ?_ ?_
  rotate_left
  · intro w'
    go_simp
    with_reducible rfl
  rotate_left
  · simp only [Act.put, List.setIfInBounds_toArray, List.set_cons_zero, List.set_cons_succ, i64_w, i32_w]
    rfl
  refine done_ (by kernel_rfl) ?_
  clear hHeld
  generalize w.drew = w1_ at HI ⊢
  clear HT
  go_wp2
  have HH : Aside0 (0 ≤ n ∧ Tb b0 w1_ b mb ma mj s ∧ Below w.heap.size w w1_ ∧ 0 ≤ n) := ⟨Nat.zero_le _, HI.out.1, HI.out.2, Nat.zero_le _⟩
  clear HI
  go_loopw [22] (fun i wr => ∃ k : Nat, i = .int .i64 k ∧ Aside0 (k ≤ k0 ∧ Tb b0 wr b mb ma mj s ∧ Below w.heap.size w wr ∧ k ≤ n)) (fun i _ => n - num i)
  case atStart => exact ⟨0, rfl, ⟨Nat.zero_le _, HH.out.2.1, HH.out.2.2.1, Nat.zero_le _⟩⟩
  case round =>
    clear HH
    obtain ⟨k, rfl, ⟨hk, hT, hB, hkn⟩⟩ := hrel
    have HT := Aside0.mk hT
    have HB := Aside0.mk hB
    have hnn := HN.out
    have m0 := HS.out.l0; have m1 := HS.out.lh; have m2 := HS.out.h1; have m3 := HS.out.a0; have m4 := HS.out.a1
    by_cases hlt : k < k0
    · have hkk : (k : Int) < n := by have := HA.out.2; omega
      obtain ⟨M, hM⟩ : ∃ M, s.last - s.low + 1 + (k : Int) = M := ⟨_, rfl⟩
      have v0 : IntKind.i64.wrap (s.last - s.low + 1 + (k : Int)) = M := by rw [wid _ (by omega) (by omega), hM]
      obtain ⟨P, hP⟩ : ∃ P, pAt s k = P := ⟨_, rfl⟩
      have hpl := HS.out.at_ k
      have hpw := HS.out.wf k
      rw [hP] at hpl hpw
      have v1 : M.tmod (n : Int) = M % (n : Int) := Int.tmod_eq_emod_of_nonneg (by omega)
      have v2 : IntKind.i64.wrap (s.low + M % (n : Int)) = P := by
        have : s.low + M % (n : Int) = P := by rw [← hP, ← hM, ← HN.out]; rfl
        rw [this]; exact wid _ (by omega) (by omega)
      have v3 : IntKind.u16.wrap P = P := by simp [IntKind.wrap, IntKind.bits, IntKind.signed]; omega
      have v4 : ((n : Int) == 0) = false := beq_eq_false_iff_ne.2 (by omega)
      have v5 : ((n : Int) = 0) = False := eq_false (by omega)
      have e1 : IntKind.i64.wrap ((k : Int) + 1) = (k : Int) + 1 := wid _ (by omega) (by omega)
      have b0_ : decide ((k : Int) < (n : Int)) = true := decide_eq_true (by omega)
      have b1_ : decide (k < n) = true := decide_eq_true (by omega)
      have b2_ : (k < n) = True := eq_true (by omega)
      have b3_ : ((k : Int) < (n : Int)) = True := eq_true (by omega)
      have v6 : (n = 0) = False := eq_false (by omega)
      have v7 : (n == 0) = false := beq_eq_false_iff_ne.2 (by omega)
      have HX := Aside0.mk (And.intro (show takenF s a P = true by rw [← hP]; exact HF.out.2 k hlt) (And.intro (show okE (a, P) from ⟨HA.out.1, hpw⟩) (And.intro (show k + 1 ≤ k0 from hlt) (show k + 1 ≤ n by omega))))
      clear hk hT hB hkn hnn m0 m1 m2 m3 m4 hlt hkk hM hP hpl hpw
      go_upto_region 7 with (fail)
      refine start_ (n := 20) (S := fun w' => Tb b0 w' b mb ma mj s) (ds := []) (bb 20 0) (by kernel_rfl) rfl rfl (HT.out.below (below_drew (Below.refl _ _))) (fun hHeld => ?_)
      replace HT := Aside0.mk (HT.out.below (below_drew (Below.refl _ _)))
      replace HB := Aside0.mk (below_drew HB.out)
      generalize World.drew _ = w5 at HT HB hHeld ⊢
      refine pure_ (i := 0) (N := some 25) (v := ?_) (a' := ?_) (bb 20 1) rfl rfl (by kernel_rfl) (fun _ _ _ h => h) (Or.inl ⟨by rfl, ?_⟩) ?_ ?_
      rotate_left
      · intro w'
        go_simp
        with_reducible rfl
      rotate_left
      · simp only [Act.put, List.setIfInBounds_toArray, List.set_cons_zero, List.set_cons_succ, i64_w, i32_w]
        rfl
      refine pure_ (i := 1) (N := some 26) (v := ?_) (a' := ?_) (bb 20 3) rfl rfl (by kernel_rfl) (fun _ _ _ h => h) (Or.inl ⟨by rfl, ?_⟩) ?_ ?_
      rotate_left
      · intro w'
        go_simp
        with_reducible rfl
      rotate_left
      · simp only [Act.put, List.setIfInBounds_toArray, List.set_cons_zero, List.set_cons_succ, i64_w, i32_w]
        rfl
      refine pure_ (i := 2) (N := some 27) (v := ?_) (a' := ?_) (bb 20 7) rfl rfl (by kernel_rfl) (fun _ _ _ h => h) (Or.inl ⟨by rfl, ?_⟩) ?_ ?_
      rotate_left
      · intro w'
        go_simp
        with_reducible rfl
      rotate_left
      · simp only [Act.put, List.setIfInBounds_toArray, List.set_cons_zero, List.set_cons_succ, i64_w, i32_w]
        rfl
      refine take_ (i := 3) (N := some 28) (v := ?_) (a' := ?_) (bb 20 15) rfl rfl (by kernel_rfl) (fun _ _ _ h => h) (Or.inl ⟨by rfl, ?_⟩) hHeld ?_ ?_
      rotate_left
      · intro w' hSw
        obtain ⟨t0, t1, t2, t3, t4, t5, -⟩ := hSw.cells
        go_simp
        with_reducible rfl
      rotate_left
      · simp only [Act.put, List.setIfInBounds_toArray, List.set_cons_zero, List.set_cons_succ, i64_w, i32_w]
        rfl
      refine pure_ (i := 4) (N := some 29) (v := ?_) (a' := ?_) (bb 20 31) rfl rfl (by kernel_rfl) (fun _ _ _ h => h) (Or.inl ⟨by rfl, ?_⟩) ?_ ?_
      rotate_left
      · intro w'
        go_simp
        with_reducible rfl
      rotate_left
      · simp only [Act.put, List.setIfInBounds_toArray, List.set_cons_zero, List.set_cons_succ, i64_w, i32_w]
        rfl
      refine pure_ (i := 5) (N := some 30) (v := ?_) (a' := ?_) (bb 20 63) rfl rfl (by kernel_rfl) (fun _ _ _ h => h) (Or.inl ⟨by rfl, ?_⟩) ?_ ?_
      rotate_left
      · intro w'
        go_simp
        with_reducible rfl
      rotate_left
      · simp only [Act.put, List.setIfInBounds_toArray, List.set_cons_zero, List.set_cons_succ, i64_w, i32_w]
        rfl
      refine pure_ (i := 6) (N := some 31) (v := ?_) (a' := ?_) (bb 20 127) rfl rfl (by kernel_rfl) (fun _ _ _ h => h) (Or.inl ⟨by rfl, ?_⟩) ?_ ?_
      rotate_left
      · intro w'
        go_simp
        with_reducible rfl
      rotate_left
      · simp only [Act.put, List.setIfInBounds_toArray, List.set_cons_zero, List.set_cons_succ, i64_w, i32_w]
        rfl
      refine take_ (i := 7) (N := some 32) (v := ?_) (a' := ?_) (bb 20 255) rfl rfl (by kernel_rfl) (fun _ _ _ h => h) (Or.inl ⟨by rfl, ?_⟩) hHeld ?_ ?_
      rotate_left
      · intro w' hSw
        obtain ⟨t0, t1, t2, t3, t4, t5, -⟩ := hSw.cells
        go_simp
        with_reducible rfl
      rotate_left
      · simp only [Act.put, List.setIfInBounds_toArray, List.set_cons_zero, List.set_cons_succ, i64_w, i32_w]
        rfl
      refine pure_ (i := 8) (N := some 33) (v := ?_) (a' := ?_) (bb 20 511) rfl rfl (by kernel_rfl) (fun _ _ _ h => h) (Or.inl ⟨by rfl, ?_⟩) ?_ ?_
      rotate_left
      · intro w'
        go_simp
        with_reducible rfl
      rotate_left
      · simp only [Act.put, List.setIfInBounds_toArray, List.set_cons_zero, List.set_cons_succ, i64_w, i32_w]
        rfl
      refine pure_ (i := 9) (N := some 34) (v := ?_) (a' := ?_) (bb 20 1023) rfl rfl (by kernel_rfl) (fun _ _ _ h => h) (Or.inl ⟨by rfl, ?_⟩) ?_ ?_
      rotate_left
      · intro w'
        go_simp
        with_reducible rfl
      rotate_left
      · simp only [Act.put, List.setIfInBounds_toArray, List.set_cons_zero, List.set_cons_succ, i64_w, i32_w]
        rfl
      refine pure_ (i := 10) (N := some 35) (v := ?_) (a' := ?_) (bb 20 2047) rfl rfl (by kernel_rfl) (fun _ _ _ h => h) (Or.inl ⟨by rfl, ?_⟩) ?_ ?_
      rotate_left
      · intro w'
        go_simp
        with_reducible rfl
      rotate_left
      · simp only [Act.put, List.setIfInBounds_toArray, List.set_cons_zero, List.set_cons_succ, i64_w, i32_w]
        rfl
      refine take_ (i := 11) (N := some 36) (v := ?_) (a' := ?_) (bb 20 4095) rfl rfl (by kernel_rfl) (fun _ _ _ h => h) (Or.inl ⟨by rfl, ?_⟩) hHeld ?_ ?_
      rotate_left
      · intro w' hSw
        obtain ⟨t0, t1, t2, t3, t4, t5, -⟩ := hSw.cells
        go_simp
        with_reducible rfl
      rotate_left
      · simp only [Act.put, List.setIfInBounds_toArray, List.set_cons_zero, List.set_cons_succ, i64_w, i32_w]
        rfl
      refine pure_ (i := 12) (N := some 37) (v := ?_) (a' := ?_) (bb 20 8191) rfl rfl (by kernel_rfl) (fun _ _ _ h => h) (Or.inl ⟨by rfl, ?_⟩) ?_ ?_
      rotate_left
      · intro w'
        go_simp
        with_reducible rfl
      rotate_left
      · simp only [Act.put, List.setIfInBounds_toArray, List.set_cons_zero, List.set_cons_succ, i64_w, i32_w]
        rfl
      refine pure_ (i := 13) (N := some 38) (v := ?_) (a' := ?_) (bb 20 16383) rfl rfl (by kernel_rfl) (fun _ _ _ h => h) (Or.inl ⟨by rfl, ?_⟩) ?_ ?_
      rotate_left
      · intro w'
        go_simp
        with_reducible rfl
      rotate_left
      · simp only [Act.put, List.setIfInBounds_toArray, List.set_cons_zero, List.set_cons_succ, i64_w, i32_w]
        rfl
      refine pure_ (i := 14) (N := some 39) (v := ?_) (a' := ?_) (bb 20 32767) rfl rfl (by kernel_rfl) (fun _ _ _ h => h) (Or.inl ⟨by rfl, ?_⟩) ?_ ?_
      rotate_left
      · intro w'
        go_simp
        with_reducible rfl
      rotate_left
      · simp only [Act.put, List.setIfInBounds_toArray, List.set_cons_zero, List.set_cons_succ, i64_w, i32_w]
        rfl
      refine pure_ (i := 15) (N := some 40) (v := ?_) (a' := ?_) (bb 20 65535) rfl rfl (by kernel_rfl) (fun _ _ _ h => h) (Or.inl ⟨by rfl, ?_⟩) ?_ ?_
      rotate_left
      · intro w'
        go_simp
        with_reducible rfl
      rotate_left
      · simp only [Act.put, List.setIfInBounds_toArray, List.set_cons_zero, List.set_cons_succ, i64_w, i32_w]
        rfl
      refine pure_ (i := 16) (N := some 41) (v := ?_) (a' := ?_) (bb 20 131071) rfl rfl (by kernel_rfl) (fun _ _ _ h => h) (Or.inl ⟨by rfl, ?_⟩) ?_ ?_
      rotate_left
      · intro w'
        go_simp
        with_reducible rfl
      rotate_left
      · simp only [Act.put, List.setIfInBounds_toArray, List.set_cons_zero, List.set_cons_succ, i64_w, i32_w]
        rfl
      refine pure_ (i := 17) (N := some 42) (v := ?_) (a' := ?_) (bb 20 262143) rfl rfl (by kernel_rfl) (fun _ _ _ h => h) (Or.inl ⟨by rfl, ?_⟩) ?_ ?_
      rotate_left
      · intro w'
        go_simp
        with_reducible rfl
      rotate_left
      · simp only [Act.put, List.setIfInBounds_toArray, List.set_cons_zero, List.set_cons_succ, i64_w, i32_w]
        rfl
      refine pure_ (i := 18) (N := some 43) (v := ?_) (a' := ?_) (bb 20 524287) rfl rfl (by kernel_rfl) (fun _ _ _ h => h) (Or.inl ⟨by rfl, ?_⟩) ?_ ?_
      rotate_left
      · intro w'
        go_simp
        with_reducible rfl
      rotate_left
      · simp only [Act.put, List.setIfInBounds_toArray, List.set_cons_zero, List.set_cons_succ, i64_w, i32_w]
        rfl
      refine pure_ (i := 19) (N := some 8) (v := ?_) (a' := ?_) (bb 20 1048575) rfl rfl (by kernel_rfl) (fun _ _ _ h => h) (Or.inl ⟨by rfl, ?_⟩) ?_ ?_
      rotate_left
      · intro w'
        go_simp
        with_reducible rfl
      rotate_left
      · simp only [Act.put, List.setIfInBounds_toArray, List.set_cons_zero, List.set_cons_succ, i64_w, i32_w]
        rfl
      refine done_ (by kernel_rfl) ?_
      clear hHeld
      skip
      go_wp2_with (go_at_call 89; refine (taken_any HT.out a P HX.out.2.1).mono ?_; rintro e w6 ⟨rfl, hB⟩; rw [HX.out.1]; replace HT := Aside0.mk (HT.out.below hB); replace HB := Aside0.mk (below_step HB.out hB); clear hB)
      go_roundw
      case rel => exact ⟨k + 1, by go_num, ⟨HX.out.2.2.1, HT.out, HB.out, HX.out.2.2.2⟩⟩
      case measure => simp only [num]; have := HX.out.2.2.2; omega
    · have hkk : k = k0 := by omega
      subst hkk
      have hkk : (k : Int) < n := by have := HA.out.2; omega
      obtain ⟨M, hM⟩ : ∃ M, s.last - s.low + 1 + (k : Int) = M := ⟨_, rfl⟩
      have v0 : IntKind.i64.wrap (s.last - s.low + 1 + (k : Int)) = M := by rw [wid _ (by omega) (by omega), hM]
      obtain ⟨P, hP⟩ : ∃ P, pAt s k = P := ⟨_, rfl⟩
      have hpl := HS.out.at_ k
      have hpw := HS.out.wf k
      rw [hP] at hpl hpw
      have v1 : M.tmod (n : Int) = M % (n : Int) := Int.tmod_eq_emod_of_nonneg (by omega)
      have v2 : IntKind.i64.wrap (s.low + M % (n : Int)) = P := by
        have : s.low + M % (n : Int) = P := by rw [← hP, ← hM, ← HN.out]; rfl
        rw [this]; exact wid _ (by omega) (by omega)
      have v3 : IntKind.u16.wrap P = P := by simp [IntKind.wrap, IntKind.bits, IntKind.signed]; omega
      have v4 : ((n : Int) == 0) = false := beq_eq_false_iff_ne.2 (by omega)
      have v5 : ((n : Int) = 0) = False := eq_false (by omega)
      have e1 : IntKind.i64.wrap ((k : Int) + 1) = (k : Int) + 1 := wid _ (by omega) (by omega)
      have b0_ : decide ((k : Int) < (n : Int)) = true := decide_eq_true (by omega)
      have b1_ : decide (k < n) = true := decide_eq_true (by omega)
      have b2_ : (k < n) = True := eq_true (by omega)
      have b3_ : ((k : Int) < (n : Int)) = True := eq_true (by omega)
      have v6 : (n = 0) = False := eq_false (by omega)
      have v7 : (n == 0) = false := beq_eq_false_iff_ne.2 (by omega)
      have HX := Aside0.mk (And.intro (show takenF s a P = false by rw [← hP]; exact HF.out.1) (And.intro (show okE (a, P) from ⟨HA.out.1, hpw⟩) hP))
      clear hk hT hB hkn hnn m0 m1 m2 m3 m4 hlt hkk hM hP hpl hpw
      go_upto_region 7 with (fail)
      refine start_ (n := 20) (S := fun w' => Tb b0 w' b mb ma mj s) (ds := []) (bb 20 0) (by kernel_rfl) rfl rfl (HT.out.below (below_drew (Below.refl _ _))) (fun hHeld => ?_)
      replace HT := Aside0.mk (HT.out.below (below_drew (Below.refl _ _)))
      replace HB := Aside0.mk (below_drew HB.out)
      generalize World.drew _ = w5 at HT HB hHeld ⊢
      refine pure_ (i := 0) (N := some 25) (v := ?_) (a' := ?_) (bb 20 1) rfl rfl (by kernel_rfl) (fun _ _ _ h => h) (Or.inl ⟨by rfl, ?_⟩) ?_ ?_
      rotate_left
      · intro w'
        go_simp
        with_reducible rfl
      rotate_left
      · simp only [Act.put, List.setIfInBounds_toArray, List.set_cons_zero, List.set_cons_succ, i64_w, i32_w]
        rfl
      refine pure_ (i := 1) (N := some 26) (v := ?_) (a' := ?_) (bb 20 3) rfl rfl (by kernel_rfl) (fun _ _ _ h => h) (Or.inl ⟨by rfl, ?_⟩) ?_ ?_
      rotate_left
      · intro w'
        go_simp
        with_reducible rfl
      rotate_left
      · simp only [Act.put, List.setIfInBounds_toArray, List.set_cons_zero, List.set_cons_succ, i64_w, i32_w]
        rfl
      refine pure_ (i := 2) (N := some 27) (v := ?_) (a' := ?_) (bb 20 7) rfl rfl (by kernel_rfl) (fun _ _ _ h => h) (Or.inl ⟨by rfl, ?_⟩) ?_ ?_
      rotate_left
      · intro w'
        go_simp
        with_reducible rfl
      rotate_left
      · simp only [Act.put, List.setIfInBounds_toArray, List.set_cons_zero, List.set_cons_succ, i64_w, i32_w]
        rfl
      refine take_ (i := 3) (N := some 28) (v := ?_) (a' := ?_) (bb 20 15) rfl rfl (by kernel_rfl) (fun _ _ _ h => h) (Or.inl ⟨by rfl, ?_⟩) hHeld ?_ ?_
      rotate_left
      · intro w' hSw
        obtain ⟨t0, t1, t2, t3, t4, t5, -⟩ := hSw.cells
        go_simp
        with_reducible rfl
      rotate_left
      · simp only [Act.put, List.setIfInBounds_toArray, List.set_cons_zero, List.set_cons_succ, i64_w, i32_w]
        rfl
      refine pure_ (i := 4) (N := some 29) (v := ?_) (a' := ?_) (bb 20 31) rfl rfl (by kernel_rfl) (fun _ _ _ h => h) (Or.inl ⟨by rfl, ?_⟩) ?_ ?_
      rotate_left
      · intro w'
        go_simp
        with_reducible rfl
      rotate_left
      · simp only [Act.put, List.setIfInBounds_toArray, List.set_cons_zero, List.set_cons_succ, i64_w, i32_w]
        rfl
      refine pure_ (i := 5) (N := some 30) (v := ?_) (a' := ?_) (bb 20 63) rfl rfl (by kernel_rfl) (fun _ _ _ h => h) (Or.inl ⟨by rfl, ?_⟩) ?_ ?_
      rotate_left
      · intro w'
        go_simp
        with_reducible rfl
      rotate_left
      · simp only [Act.put, List.setIfInBounds_toArray, List.set_cons_zero, List.set_cons_succ, i64_w, i32_w]
        rfl
      refine pure_ (i := 6) (N := some 31) (v := ?_) (a' := ?_) (bb 20 127) rfl rfl (by kernel_rfl) (fun _ _ _ h => h) (Or.inl ⟨by rfl, ?_⟩) ?_ ?_
      rotate_left
      · intro w'
        go_simp
        with_reducible rfl
      rotate_left
      · simp only [Act.put, List.setIfInBounds_toArray, List.set_cons_zero, List.set_cons_succ, i64_w, i32_w]
        rfl
      refine take_ (i := 7) (N := some 32) (v := ?_) (a' := ?_) (bb 20 255) rfl rfl (by kernel_rfl) (fun _ _ _ h => h) (Or.inl ⟨by rfl, ?_⟩) hHeld ?_ ?_
      rotate_left
      · intro w' hSw
        obtain ⟨t0, t1, t2, t3, t4, t5, -⟩ := hSw.cells
        go_simp
        with_reducible rfl
      rotate_left
      · simp only [Act.put, List.setIfInBounds_toArray, List.set_cons_zero, List.set_cons_succ, i64_w, i32_w]
        rfl
      refine pure_ (i := 8) (N := some 33) (v := ?_) (a' := ?_) (bb 20 511) rfl rfl (by kernel_rfl) (fun _ _ _ h => h) (Or.inl ⟨by rfl, ?_⟩) ?_ ?_
      rotate_left
      · intro w'
        go_simp
        with_reducible rfl
      rotate_left
      · simp only [Act.put, List.setIfInBounds_toArray, List.set_cons_zero, List.set_cons_succ, i64_w, i32_w]
        rfl
      refine pure_ (i := 9) (N := some 34) (v := ?_) (a' := ?_) (bb 20 1023) rfl rfl (by kernel_rfl) (fun _ _ _ h => h) (Or.inl ⟨by rfl, ?_⟩) ?_ ?_
      rotate_left
      · intro w'
        go_simp
        with_reducible rfl
      rotate_left
      · simp only [Act.put, List.setIfInBounds_toArray, List.set_cons_zero, List.set_cons_succ, i64_w, i32_w]
        rfl
      refine pure_ (i := 10) (N := some 35) (v := ?_) (a' := ?_) (bb 20 2047) rfl rfl (by kernel_rfl) (fun _ _ _ h => h) (Or.inl ⟨by rfl, ?_⟩) ?_ ?_
      rotate_left
      · intro w'
        go_simp
        with_reducible rfl
      rotate_left
      · simp only [Act.put, List.setIfInBounds_toArray, List.set_cons_zero, List.set_cons_succ, i64_w, i32_w]
        rfl
      refine take_ (i := 11) (N := some 36) (v := ?_) (a' := ?_) (bb 20 4095) rfl rfl (by kernel_rfl) (fun _ _ _ h => h) (Or.inl ⟨by rfl, ?_⟩) hHeld ?_ ?_
      rotate_left
      · intro w' hSw
        obtain ⟨t0, t1, t2, t3, t4, t5, -⟩ := hSw.cells
        go_simp
        with_reducible rfl
      rotate_left
      · simp only [Act.put, List.setIfInBounds_toArray, List.set_cons_zero, List.set_cons_succ, i64_w, i32_w]
        rfl
      refine pure_ (i := 12) (N := some 37) (v := ?_) (a' := ?_) (bb 20 8191) rfl rfl (by kernel_rfl) (fun _ _ _ h => h) (Or.inl ⟨by rfl, ?_⟩) ?_ ?_
      rotate_left
      · intro w'
        go_simp
        with_reducible rfl
      rotate_left
      · simp only [Act.put, List.setIfInBounds_toArray, List.set_cons_zero, List.set_cons_succ, i64_w, i32_w]
        rfl
      refine pure_ (i := 13) (N := some 38) (v := ?_) (a' := ?_) (bb 20 16383) rfl rfl (by kernel_rfl) (fun _ _ _ h => h) (Or.inl ⟨by rfl, ?_⟩) ?_ ?_
      rotate_left
      · intro w'
        go_simp
        with_reducible rfl
      rotate_left
      · simp only [Act.put, List.setIfInBounds_toArray, List.set_cons_zero, List.set_cons_succ, i64_w, i32_w]
        rfl
      refine pure_ (i := 14) (N := some 39) (v := ?_) (a' := ?_) (bb 20 32767) rfl rfl (by kernel_rfl) (fun _ _ _ h => h) (Or.inl ⟨by rfl, ?_⟩) ?_ ?_
      rotate_left
      · intro w'
        go_simp
        with_reducible rfl
      rotate_left
      · simp only [Act.put, List.setIfInBounds_toArray, List.set_cons_zero, List.set_cons_succ, i64_w, i32_w]
        rfl
      refine pure_ (i := 15) (N := some 40) (v := ?_) (a' := ?_) (bb 20 65535) rfl rfl (by kernel_rfl) (fun _ _ _ h => h) (Or.inl ⟨by rfl, ?_⟩) ?_ ?_
      rotate_left
      · intro w'
        go_simp
        with_reducible rfl
      rotate_left
      · simp only [Act.put, List.setIfInBounds_toArray, List.set_cons_zero, List.set_cons_succ, i64_w, i32_w]
        rfl
      refine pure_ (i := 16) (N := some 41) (v := ?_) (a' := ?_) (bb 20 131071) rfl rfl (by kernel_rfl) (fun _ _ _ h => h) (Or.inl ⟨by rfl, ?_⟩) ?_ ?_
      rotate_left
      · intro w'
        go_simp
        with_reducible rfl
      rotate_left
      · simp only [Act.put, List.setIfInBounds_toArray, List.set_cons_zero, List.set_cons_succ, i64_w, i32_w]
        rfl
      refine pure_ (i := 17) (N := some 42) (v := ?_) (a' := ?_) (bb 20 262143) rfl rfl (by kernel_rfl) (fun _ _ _ h => h) (Or.inl ⟨by rfl, ?_⟩) ?_ ?_
      rotate_left
      · intro w'
        go_simp
        with_reducible rfl
      rotate_left
      · simp only [Act.put, List.setIfInBounds_toArray, List.set_cons_zero, List.set_cons_succ, i64_w, i32_w]
        rfl
      refine pure_ (i := 18) (N := some 43) (v := ?_) (a' := ?_) (bb 20 524287) rfl rfl (by kernel_rfl) (fun _ _ _ h => h) (Or.inl ⟨by rfl, ?_⟩) ?_ ?_
      rotate_left
      · intro w'
        go_simp
        with_reducible rfl
      rotate_left
      · simp only [Act.put, List.setIfInBounds_toArray, List.set_cons_zero, List.set_cons_succ, i64_w, i32_w]
        rfl
      refine pure_ (i := 19) (N := some 8) (v := ?_) (a' := ?_) (bb 20 1048575) rfl rfl (by kernel_rfl) (fun _ _ _ h => h) (Or.inl ⟨by rfl, ?_⟩) ?_ ?_
      rotate_left
      · intro w'
        go_simp
        with_reducible rfl
      rotate_left
      · simp only [Act.put, List.setIfInBounds_toArray, List.set_cons_zero, List.set_cons_succ, i64_w, i32_w]
        rfl
      refine done_ (by kernel_rfl) ?_
      clear hHeld
      skip
      go_upto_region 9 with (go_at_call 89; refine (taken_any HT.out a P HX.out.2.1).mono ?_; rintro e w6 ⟨rfl, hB⟩; rw [HX.out.1]; replace HT := Aside0.mk (HT.out.below hB); replace HB := Aside0.mk (below_step HB.out hB); clear hB)
      obtain ⟨t0, t1, t2, t3, t4, t5, t6⟩ := HT.out.cells
      have HL := Aside0.mk (HT.out.setLast P)
      go_wp2
      go_ret2
      refine ⟨by rw [HX.out.2.2]; rfl, by rw [HX.out.2.2]; exact HL.out.1, (Tv.of_below HB.out).trans HL.out.2⟩
set_option maxRecDepth 100000 in
set_option maxHeartbeats 8000000 in
theorem pick_full {b0 b mb ma mj : Nat} {w : World} {s : TS} (h : Tb b0 w b mb ma mj s) (a : Int) (hs : Ps s) (ha : (Lit.int .u32 a).wf = true) (hf : ∀ j : Nat, (j : Int) < s.high - s.low + 1 → takenF s a (pAt s j) = true) :
    Calls Try.prog 54 #[.pointer (some ⟨b, 0, none⟩), .int .u32 a] w fun e w' => e = .returned (.tuple #[.int .u16 0, .int .i64 5]) ∧ Below w.heap.size w w' := by
  have n0 := hs.l0; have n1 := hs.lh; have n2 := hs.h1; have n3 := hs.a0; have n4 := hs.a1
  obtain ⟨n, hn⟩ : ∃ n : Nat, s.high - s.low + 1 = (n : Int) := ⟨(s.high - s.low + 1).toNat, by omega⟩
  have w0 : IntKind.i64.wrap (s.high - s.low) = s.high - s.low := wid _ (by omega) (by omega)
  have w1 : IntKind.i64.wrap (s.high - s.low + 1) = (n : Int) := by rw [wid _ (by omega) (by omega), hn]
  have w2 : IntKind.i64.wrap (s.last - s.low) = s.last - s.low := wid _ (by omega) (by omega)
  have w3 : IntKind.i64.wrap (s.last - s.low + 1) = s.last - s.low + 1 := wid _ (by omega) (by omega)
  have HS := Aside0.mk hs
  have HN := Aside0.mk hn
  have HT := Aside0.mk h
  have HA := Aside0.mk ha
  have HF := Aside0.mk hf
  clear hs h ha hf n0 n1 n2 n3 n4 hn
  go_enter Try.func54, Try.ntmps54
  go_upto_region 3 with (fail)
  refine start_ (n := 11) (S := fun w' => Tb b0 w' b mb ma mj s) (ds := []) (bb 11 0) (by kernel_rfl) rfl rfl (HT.out.below (below_drew (Below.refl _ _))) (fun hHeld => ?_)
  have HI : Aside0 (Tb b0 w.drew b mb ma mj s ∧ Below w.heap.size w w.drew) := ⟨HT.out.below (below_drew (Below.refl _ _)), below_drew (Below.refl _ _)⟩
  refine pure_ (i := 0) (N := some 11) (v := ?_) (a' := ?_) (bb 11 1) rfl rfl (by kernel_rfl) (fun _ _ _ h => h) (Or.inl ⟨by rfl, ?_⟩) ?_ ?_
  rotate_left
  · intro w'
    go_simp
    with_reducible rfl
  rotate_left
  · simp only [Act.put, List.setIfInBounds_toArray, List.set_cons_zero, List.set_cons_succ, i64_w, i32_w]
    rfl
  refine pure_ (i := 1) (N := some 12) (v := ?_) (a' := ?_) (bb 11 3) rfl rfl (by kernel_rfl) (fun _ _ _ h => h) (Or.inl ⟨by rfl, ?_⟩) ?_ ?_
  rotate_left
  · intro w'
    go_simp
    with_reducible rfl
  rotate_left
  · simp only [Act.put, List.setIfInBounds_toArray, List.set_cons_zero, List.set_cons_succ, i64_w, i32_w]
    rfl
  refine pure_ (i := 2) (N := some 13) (v := ?_) (a' := ?_) (bb 11 7) rfl rfl (by kernel_rfl) (fun _ _ _ h => h) (Or.inl ⟨by rfl, ?_⟩) ?_ ?_
  rotate_left
  · intro w'
    go_simp
    with_reducible rfl
  rotate_left
  · simp only [Act.put, List.setIfInBounds_toArray, List.set_cons_zero, List.set_cons_succ, i64_w, i32_w]
    rfl
  refine take_ (i := 3) (N := some 14) (v := ?_) (a' := ?_) (bb 11 15) rfl rfl (by kernel_rfl) (fun _ _ _ h => h) (Or.inl ⟨by rfl, ?_⟩) hHeld ?_ ?_
  rotate_left
  · intro w' hSw
    obtain ⟨t0, t1, t2, t3, t4, t5, -⟩ := hSw.cells
    go_simp
    with_reducible rfl
  rotate_left
  · simp only [Act.put, List.setIfInBounds_toArray, List.set_cons_zero, List.set_cons_succ, i64_w, i32_w]
    rfl
  refine pure_ (i := 4) (N := some 15) (v := ?_) (a' := ?_) (bb 11 31) rfl rfl (by kernel_rfl) (fun _ _ _ h => h) (Or.inl ⟨by rfl, ?_⟩) ?_ ?_
  rotate_left
  · intro w'
    go_simp
    with_reducible rfl
  rotate_left
  · simp only [Act.put, List.setIfInBounds_toArray, List.set_cons_zero, List.set_cons_succ, i64_w, i32_w]
    rfl
  refine pure_ (i := 5) (N := some 16) (v := ?_) (a' := ?_) (bb 11 63) rfl rfl (by kernel_rfl) (fun _ _ _ h => h) (Or.inl ⟨by rfl, ?_⟩) ?_ ?_
  rotate_left
  · intro w'
    go_simp
    with_reducible rfl
  rotate_left
  · simp only [Act.put, List.setIfInBounds_toArray, List.set_cons_zero, List.set_cons_succ, i64_w, i32_w]
    rfl
  refine pure_ (i := 6) (N := some 17) (v := ?_) (a' := ?_) (bb 11 127) rfl rfl (by kernel_rfl) (fun _ _ _ h => h) (Or.inl ⟨by rfl, ?_⟩) ?_ ?_
  rotate_left
  · intro w'
    go_simp
    with_reducible rfl
  rotate_left
  · simp only [Act.put, List.setIfInBounds_toArray, List.set_cons_zero, List.set_cons_succ, i64_w, i32_w]
    rfl
  refine take_ (i := 7) (N := some 18) (v := ?_) (a' := ?_) (bb 11 255) rfl rfl (by kernel_rfl) (fun _ _ _ h => h) (Or.inl ⟨by rfl, ?_⟩) hHeld ?_ ?_
  rotate_left
  · intro w' hSw
    obtain ⟨t0, t1, t2, t3, t4, t5, -⟩ := hSw.cells
    go_simp
    with_reducible rfl
  rotate_left
  · simp only [Act.put, List.setIfInBounds_toArray, List.set_cons_zero, List.set_cons_succ, i64_w, i32_w]
    rfl
  refine pure_ (i := 8) (N := some 19) (v := ?_) (a' := ?_) (bb 11 511) rfl rfl (by kernel_rfl) (fun _ _ _ h => h) (Or.inl ⟨by rfl, ?_⟩) ?_ ?_
  rotate_left
  · intro w'
    go_simp
    with_reducible rfl
  rotate_left
  · simp only [Act.put, List.setIfInBounds_toArray, List.set_cons_zero, List.set_cons_succ, i64_w, i32_w]
    rfl
  refine pure_ (i := 9) (N := some 20) (v := ?_) (a' := ?_) (bb 11 1023) rfl rfl (by kernel_rfl) (fun _ _ _ h => h) (Or.inl ⟨by rfl, ?_⟩) ?_ ?_
  rotate_left
  · intro w'
    go_simp
    with_reducible rfl
  rotate_left
  · simp only [Act.put, List.setIfInBounds_toArray, List.set_cons_zero, List.set_cons_succ, i64_w, i32_w]
    rfl
  refine pure_ (i := 10) (N := some 6) (v := ?_) (a' := ?_) (bb 11 2047) rfl rfl (by kernel_rfl) (fun _ _ _ h => h) (Or.inl ⟨by rfl, ?_⟩) ?_ ?_
  rotate_left
  · intro w'
    go_simp
    with_reducible rfl
  rotate_left
  · simp only [Act.put, List.setIfInBounds_toArray, List.set_cons_zero, List.set_cons_succ, i64_w, i32_w]
    rfl
  refine done_ (by kernel_rfl) ?_
  clear hHeld
  generalize w.drew = w1_ at HI ⊢
  clear HT
  go_wp2
  have HH : Aside0 (0 ≤ n ∧ Tb b0 w1_ b mb ma mj s ∧ Below w.heap.size w w1_ ∧ 0 ≤ n) := ⟨Nat.zero_le _, HI.out.1, HI.out.2, Nat.zero_le _⟩
  clear HI
  go_loopw [22] (fun i wr => ∃ k : Nat, i = .int .i64 k ∧ Aside0 (k ≤ n ∧ Tb b0 wr b mb ma mj s ∧ Below w.heap.size w wr ∧ k ≤ n)) (fun i _ => n - num i)
  case atStart => exact ⟨0, rfl, HH⟩
  case round =>
    clear HH
    obtain ⟨k, rfl, ⟨hk, hT, hB, hkn⟩⟩ := hrel
    have HT := Aside0.mk hT
    have HB := Aside0.mk hB
    have hnn := HN.out
    have m0 := HS.out.l0; have m1 := HS.out.lh; have m2 := HS.out.h1; have m3 := HS.out.a0; have m4 := HS.out.a1
    by_cases hlt : k < n
    · have hkk : (k : Int) < n := by omega
      obtain ⟨M, hM⟩ : ∃ M, s.last - s.low + 1 + (k : Int) = M := ⟨_, rfl⟩
      have v0 : IntKind.i64.wrap (s.last - s.low + 1 + (k : Int)) = M := by rw [wid _ (by omega) (by omega), hM]
      obtain ⟨P, hP⟩ : ∃ P, pAt s k = P := ⟨_, rfl⟩
      have hpl := HS.out.at_ k
      have hpw := HS.out.wf k
      rw [hP] at hpl hpw
      have v1 : M.tmod (n : Int) = M % (n : Int) := Int.tmod_eq_emod_of_nonneg (by omega)
      have v2 : IntKind.i64.wrap (s.low + M % (n : Int)) = P := by
        have : s.low + M % (n : Int) = P := by rw [← hP, ← hM, ← HN.out]; rfl
        rw [this]; exact wid _ (by omega) (by omega)
      have v3 : IntKind.u16.wrap P = P := by simp [IntKind.wrap, IntKind.bits, IntKind.signed]; omega
      have v4 : ((n : Int) == 0) = false := beq_eq_false_iff_ne.2 (by omega)
      have v5 : ((n : Int) = 0) = False := eq_false (by omega)
      have e1 : IntKind.i64.wrap ((k : Int) + 1) = (k : Int) + 1 := wid _ (by omega) (by omega)
      have b0_ : decide ((k : Int) < (n : Int)) = true := decide_eq_true (by omega)
      have b1_ : decide (k < n) = true := decide_eq_true (by omega)
      have b2_ : (k < n) = True := eq_true (by omega)
      have b3_ : ((k : Int) < (n : Int)) = True := eq_true (by omega)
      have v6 : (n = 0) = False := eq_false (by omega)
      have v7 : (n == 0) = false := beq_eq_false_iff_ne.2 (by omega)
      have HX := Aside0.mk (And.intro (show takenF s a P = true by rw [← hP]; exact HF.out k (by omega)) (And.intro (show okE (a, P) from ⟨HA.out, hpw⟩) (show k + 1 ≤ n from hlt)))
      clear hk hT hB hkn hnn m0 m1 m2 m3 m4 hlt hkk hM hP hpl hpw
      go_upto_region 7 with (fail)
      refine start_ (n := 20) (S := fun w' => Tb b0 w' b mb ma mj s) (ds := []) (bb 20 0) (by kernel_rfl) rfl rfl (HT.out.below (below_drew (Below.refl _ _))) (fun hHeld => ?_)
      replace HT := Aside0.mk (HT.out.below (below_drew (Below.refl _ _)))
      replace HB := Aside0.mk (below_drew HB.out)
      generalize World.drew _ = w5 at HT HB hHeld ⊢
      refine pure_ (i := 0) (N := some 25) (v := ?_) (a' := ?_) (bb 20 1) rfl rfl (by kernel_rfl) (fun _ _ _ h => h) (Or.inl ⟨by rfl, ?_⟩) ?_ ?_
      rotate_left
      · intro w'
        go_simp
        with_reducible rfl
      rotate_left
      · simp only [Act.put, List.setIfInBounds_toArray, List.set_cons_zero, List.set_cons_succ, i64_w, i32_w]
        rfl
      refine pure_ (i := 1) (N := some 26) (v := ?_) (a' := ?_) (bb 20 3) rfl rfl (by kernel_rfl) (fun _ _ _ h => h) (Or.inl ⟨by rfl, ?_⟩) ?_ ?_
      rotate_left
      · intro w'
        go_simp
        with_reducible rfl
      rotate_left
      · simp only [Act.put, List.setIfInBounds_toArray, List.set_cons_zero, List.set_cons_succ, i64_w, i32_w]
        rfl
      refine pure_ (i := 2) (N := some 27) (v := ?_) (a' := ?_) (bb 20 7) rfl rfl (by kernel_rfl) (fun _ _ _ h => h) (Or.inl ⟨by rfl, ?_⟩) ?_ ?_
      rotate_left
      · intro w'
        go_simp
        with_reducible rfl
      rotate_left
      · simp only [Act.put, List.setIfInBounds_toArray, List.set_cons_zero, List.set_cons_succ, i64_w, i32_w]
        rfl
      refine take_ (i := 3) (N := some 28) (v := ?_) (a' := ?_) (bb 20 15) rfl rfl (by kernel_rfl) (fun _ _ _ h => h) (Or.inl ⟨by rfl, ?_⟩) hHeld ?_ ?_
      rotate_left
      · intro w' hSw
        obtain ⟨t0, t1, t2, t3, t4, t5, -⟩ := hSw.cells
        go_simp
        with_reducible rfl
      rotate_left
      · simp only [Act.put, List.setIfInBounds_toArray, List.set_cons_zero, List.set_cons_succ, i64_w, i32_w]
        rfl
      refine pure_ (i := 4) (N := some 29) (v := ?_) (a' := ?_) (bb 20 31) rfl rfl (by kernel_rfl) (fun _ _ _ h => h) (Or.inl ⟨by rfl, ?_⟩) ?_ ?_
      rotate_left
      · intro w'
        go_simp
        with_reducible rfl
      rotate_left
      · simp only [Act.put, List.setIfInBounds_toArray, List.set_cons_zero, List.set_cons_succ, i64_w, i32_w]
        rfl
      refine pure_ (i := 5) (N := some 30) (v := ?_) (a' := ?_) (bb 20 63) rfl rfl (by kernel_rfl) (fun _ _ _ h => h) (Or.inl ⟨by rfl, ?_⟩) ?_ ?_
      rotate_left
      · intro w'
        go_simp
        with_reducible rfl
      rotate_left
      · simp only [Act.put, List.setIfInBounds_toArray, List.set_cons_zero, List.set_cons_succ, i64_w, i32_w]
        rfl
      refine pure_ (i := 6) (N := some 31) (v := ?_) (a' := ?_) (bb 20 127) rfl rfl (by kernel_rfl) (fun _ _ _ h => h) (Or.inl ⟨by rfl, ?_⟩) ?_ ?_
      rotate_left
      · intro w'
        go_simp
        with_reducible rfl
      rotate_left
      · simp only [Act.put, List.setIfInBounds_toArray, List.set_cons_zero, List.set_cons_succ, i64_w, i32_w]
        rfl
      refine take_ (i := 7) (N := some 32) (v := ?_) (a' := ?_) (bb 20 255) rfl rfl (by kernel_rfl) (fun _ _ _ h => h) (Or.inl ⟨by rfl, ?_⟩) hHeld ?_ ?_
      rotate_left
      · intro w' hSw
        obtain ⟨t0, t1, t2, t3, t4, t5, -⟩ := hSw.cells
        go_simp
        with_reducible rfl
      rotate_left
      · simp only [Act.put, List.setIfInBounds_toArray, List.set_cons_zero, List.set_cons_succ, i64_w, i32_w]
        rfl
      refine pure_ (i := 8) (N := some 33) (v := ?_) (a' := ?_) (bb 20 511) rfl rfl (by kernel_rfl) (fun _ _ _ h => h) (Or.inl ⟨by rfl, ?_⟩) ?_ ?_
      rotate_left
      · intro w'
        go_simp
        with_reducible rfl
      rotate_left
      · simp only [Act.put, List.setIfInBounds_toArray, List.set_cons_zero, List.set_cons_succ, i64_w, i32_w]
        rfl
      refine pure_ (i := 9) (N := some 34) (v := ?_) (a' := ?_) (bb 20 1023) rfl rfl (by kernel_rfl) (fun _ _ _ h => h) (Or.inl ⟨by rfl, ?_⟩) ?_ ?_
      rotate_left
      · intro w'
        go_simp
        with_reducible rfl
      rotate_left
      · simp only [Act.put, List.setIfInBounds_toArray, List.set_cons_zero, List.set_cons_succ, i64_w, i32_w]
        rfl
      refine pure_ (i := 10) (N := some 35) (v := ?_) (a' := ?_) (bb 20 2047) rfl rfl (by kernel_rfl) (fun _ _ _ h => h) (Or.inl ⟨by rfl, ?_⟩) ?_ ?_
      rotate_left
      · intro w'
        go_simp
        with_reducible rfl
      rotate_left
      · simp only [Act.put, List.setIfInBounds_toArray, List.set_cons_zero, List.set_cons_succ, i64_w, i32_w]
        rfl
      refine take_ (i := 11) (N := some 36) (v := ?_) (a' := ?_) (bb 20 4095) rfl rfl (by kernel_rfl) (fun _ _ _ h => h) (Or.inl ⟨by rfl, ?_⟩) hHeld ?_ ?_
      rotate_left
      · intro w' hSw
        obtain ⟨t0, t1, t2, t3, t4, t5, -⟩ := hSw.cells
        go_simp
        with_reducible rfl
      rotate_left
      · simp only [Act.put, List.setIfInBounds_toArray, List.set_cons_zero, List.set_cons_succ, i64_w, i32_w]
        rfl
      refine pure_ (i := 12) (N := some 37) (v := ?_) (a' := ?_) (bb 20 8191) rfl rfl (by kernel_rfl) (fun _ _ _ h => h) (Or.inl ⟨by rfl, ?_⟩) ?_ ?_
      rotate_left
      · intro w'
        go_simp
        with_reducible rfl
      rotate_left
      · simp only [Act.put, List.setIfInBounds_toArray, List.set_cons_zero, List.set_cons_succ, i64_w, i32_w]
        rfl
      refine pure_ (i := 13) (N := some 38) (v := ?_) (a' := ?_) (bb 20 16383) rfl rfl (by kernel_rfl) (fun _ _ _ h => h) (Or.inl ⟨by rfl, ?_⟩) ?_ ?_
      rotate_left
      · intro w'
        go_simp
        with_reducible rfl
      rotate_left
      · simp only [Act.put, List.setIfInBounds_toArray, List.set_cons_zero, List.set_cons_succ, i64_w, i32_w]
        rfl
      refine pure_ (i := 14) (N := some 39) (v := ?_) (a' := ?_) (bb 20 32767) rfl rfl (by kernel_rfl) (fun _ _ _ h => h) (Or.inl ⟨by rfl, ?_⟩) ?_ ?_
      rotate_left
      · intro w'
        go_simp
        with_reducible rfl
      rotate_left
      · simp only [Act.put, List.setIfInBounds_toArray, List.set_cons_zero, List.set_cons_succ, i64_w, i32_w]
        rfl
      refine pure_ (i := 15) (N := some 40) (v := ?_) (a' := ?_) (bb 20 65535) rfl rfl (by kernel_rfl) (fun _ _ _ h => h) (Or.inl ⟨by rfl, ?_⟩) ?_ ?_
      rotate_left
      · intro w'
        go_simp
        with_reducible rfl
      rotate_left
      · simp only [Act.put, List.setIfInBounds_toArray, List.set_cons_zero, List.set_cons_succ, i64_w, i32_w]
        rfl
      refine pure_ (i := 16) (N := some 41) (v := ?_) (a' := ?_) (bb 20 131071) rfl rfl (by kernel_rfl) (fun _ _ _ h => h) (Or.inl ⟨by rfl, ?_⟩) ?_ ?_
      rotate_left
      · intro w'
        go_simp
        with_reducible rfl
      rotate_left
      · simp only [Act.put, List.setIfInBounds_toArray, List.set_cons_zero, List.set_cons_succ, i64_w, i32_w]
        rfl
      refine pure_ (i := 17) (N := some 42) (v := ?_) (a' := ?_) (bb 20 262143) rfl rfl (by kernel_rfl) (fun _ _ _ h => h) (Or.inl ⟨by rfl, ?_⟩) ?_ ?_
      rotate_left
      · intro w'
        go_simp
        with_reducible rfl
      rotate_left
      · simp only [Act.put, List.setIfInBounds_toArray, List.set_cons_zero, List.set_cons_succ, i64_w, i32_w]
        rfl
      refine pure_ (i := 18) (N := some 43) (v := ?_) (a' := ?_) (bb 20 524287) rfl rfl (by kernel_rfl) (fun _ _ _ h => h) (Or.inl ⟨by rfl, ?_⟩) ?_ ?_
      rotate_left
      · intro w'
        go_simp
        with_reducible rfl
      rotate_left
      · simp only [Act.put, List.setIfInBounds_toArray, List.set_cons_zero, List.set_cons_succ, i64_w, i32_w]
        rfl
      refine pure_ (i := 19) (N := some 8) (v := ?_) (a' := ?_) (bb 20 1048575) rfl rfl (by kernel_rfl) (fun _ _ _ h => h) (Or.inl ⟨by rfl, ?_⟩) ?_ ?_
      rotate_left
      · intro w'
        go_simp
        with_reducible rfl
      rotate_left
      · simp only [Act.put, List.setIfInBounds_toArray, List.set_cons_zero, List.set_cons_succ, i64_w, i32_w]
        rfl
      refine done_ (by kernel_rfl) ?_
      clear hHeld
      skip
      go_wp2_with (go_at_call 89; refine (taken_any HT.out a P HX.out.2.1).mono ?_; rintro e w6 ⟨rfl, hB⟩; rw [HX.out.1]; replace HT := Aside0.mk (HT.out.below hB); replace HB := Aside0.mk (below_step HB.out hB); clear hB)
      go_roundw
      case rel => exact ⟨k + 1, by go_num, ⟨HX.out.2.2, HT.out, HB.out, HX.out.2.2⟩⟩
      case measure => simp only [num]; have := HX.out.2.2; omega
    · have b0_ : decide ((k : Int) < (n : Int)) = false := decide_eq_false (by omega)
      have b1_ : decide (k < n) = false := decide_eq_false hlt
      clear hk hT hB hkn hnn m0 m1 m2 m3 m4 hlt
      go_wp2
      go_ret2
      exact ⟨rfl, HB.out⟩
end Go.Proofs.Ytimgfdkndlbfbaa.HPort
