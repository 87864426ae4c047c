/- The reference of port: Unbind, Part. Conditions: each theorem's own. -/
import Derived.Test.YtimgfdkndlbfbaaHPortR2
namespace Go.Proofs.Ytimgfdkndlbfbaa.HPortR
open Go.RowKit Go.Proofs.YtimgfdkndlbfbaaW.PrintWords Go.Proofs.YtimgfdkndlbfbaaW.PrintLast Go.Proofs.YtimgfdkndlbfbaaW.PrintMore Go.Proofs.Ytimgfdkndlbfbaa.HPort Go.Proofs.Ytimgfdkndlbfbaa.PRp Go.Proofs.Ytimgfdkndlbfbaa.HReg
attribute [local go_sem high] eqA105
attribute [local go_sem high] eqA107
set_option linter.unusedVariables false
set_option linter.unusedSimpArgs false
/-- What a round of the search knows. -/
structure Fr (w0 w : World) (g ge k1 : Nat) (bx ex zx : Array Value) (eT : TypeId) (A : Option Addr) (n c : Nat) (l : List S175) (A' : Option Addr) (n' c' : Nat) (l' : List S177) : Prop where
  p1 : w.heap[g]? = some (.cells bx 100 (0, 0))
  pe : w.heap[ge]? = some (.cells ex eT (0, 0))
  p2 : w.heap[k1]? = some (.cells zx 100 (0, 0))
  rw : Rw w A n c l A' n' c' l'
  bl : Below w0.heap.size w0 w
theorem Fr.below {w0 w w' : World} {g ge k1 : Nat} {bx ex zx : Array Value} {eT : TypeId} {A : Option Addr} {n c : Nat} {l : List S175} {A' : Option Addr} {n' c' : Nat} {l' : List S177} (h : Fr w0 w g ge k1 bx ex zx eT A n c l A' n' c' l') (hb : Below w.heap.size w w') : Fr w0 w' g ge k1 bx ex zx eT A n c l A' n' c' l' :=
  ⟨blk_below h.p1 hb, blk_below h.pe hb, blk_below h.p2 hb, h.rw.below hb, below_step h.bl hb⟩
theorem cut_list {α : Type} (l : List α) (k : Nat) : (([] : List α) ++ l.take k) ++ l.drop (k + 1) = l.eraseIdx k := by rw [List.nil_append, List.eraseIdx_eq_take_drop_succ]
set_option maxRecDepth 100000 in
set_option maxHeartbeats 16000000 in
theorem runbind_none (lo hi la : Int) {A : Option Addr} {n c : Nat} {l : List S175} {A' : Option Addr} {n' c' : Nat} {l' : List S177} {w : World} (h : Rw w A n c l A' n' c' l') (a p o : Int) (hn : ∀ j (h : j < l.length), (isE a p l[j] && l[j].f1 == o) = false) :
    Calls Try.prog 85 #[rt lo hi la A n c A' n' c', .agg #[.int .u32 a, .int .u16 p], .int .i64 o] w fun e w' => e = .returned (.tuple #[rt lo hi la A n c A' n' c', .int .i64 6]) ∧ Below w.heap.size w w' := by
  have hlen := h.len; have hfew := h.few; have hcap := h.cap
  have HX := Aside0.mk hn
  clear hn
  have HN := Aside0.mk (And.intro hlen (And.intro hfew hcap))
  clear hlen hfew hcap
  have H := Aside0.mk h
  unfold rt
  clear h
  go_enter Try.func85, Try.ntmps85
  go_upto_region 1 with (fail)
  obtain ⟨hb1, hbe, hb2, hB⟩ := boxed3 w (.cells #[.int .i64 lo, .int .i64 hi, .int .i64 la, .slice A n c, .slice A' n' c'] 100) (.cells #[.int .u32 a, .int .u16 p] 105) (.cells #[.int .i64 0, .int .i64 0, .int .i64 0, .slice none 0 0, .slice none 0 0] 100)
  generalize ((w.alloc (.cells #[.int .i64 lo, .int .i64 hi, .int .i64 la, .slice A n c, .slice A' n' c'] 100)).alloc (.cells #[.int .u32 a, .int .u16 p] 105)).alloc (.cells #[.int .i64 0, .int .i64 0, .int .i64 0, .slice none 0 0, .slice none 0 0] 100) = w1 at hb1 hbe hb2 hB ⊢
  have HB := Aside0.mk hB
  have H1 := Aside0.mk (H.out.below hB)
  obtain ⟨k1, hk1⟩ : ∃ k1, k1 = w.heap.size + 1 + 1 := ⟨_, rfl⟩
  obtain ⟨ge, hge⟩ : ∃ ge, ge = w.heap.size + 1 := ⟨_, rfl⟩
  rw [← hk1] at hb2 ⊢
  rw [← hge] at hbe ⊢
  obtain ⟨g, hg⟩ : ∃ g, w.heap.size = g := ⟨_, rfl⟩
  rw [hg] at hb1 ⊢
  have HG := Aside0.mk (show w.heap.size ≤ g ∧ w.heap.size ≤ k1 ∧ k1 ≠ g ∧ g ≠ k1 ∧ ge ≠ g ∧ ge ≠ k1 by omega)
  have HP1 := Aside0.mk hb1
  have HPE := Aside0.mk hbe
  have HP2 := Aside0.mk hb2
  clear hB hb1 hbe hb2 hg hk1 hge
  obtain ⟨p0, p1, p2, p3, p4, s0, s1, s2, s3, s4⟩ := five HP1.out
  obtain ⟨r0, r1, r2, r3, r4, u0, u1, u2, u3, u4⟩ := five HP2.out
  have e0 := (blk_cell HPE.out 0).trans rfl
  have e1 := (blk_cell HPE.out 1).trans rfl
  have gl0 := blk_lt HP1.out
  have gl2 := blk_lt HP2.out
  have gle := blk_lt HPE.out
  go_wp2
  have HH : Aside0 (0 ≤ n ∧ Fr w w1 g ge k1 #[.int .i64 lo, .int .i64 hi, .int .i64 la, .slice A n c, .slice A' n' c'] #[.int .u32 a, .int .u16 p] #[.int .i64 0, .int .i64 0, .int .i64 0, .slice none 0 0, .slice none 0 0] 105 A n c l A' n' c' l' ∧ 0 ≤ n) := ⟨Nat.zero_le _, ⟨HP1.out, HPE.out, HP2.out, H1.out, HB.out⟩, Nat.zero_le _⟩
  clear HP1 HPE HP2 H1 HB
  clear p0 p1 p2 p3 p4 s0 s1 s2 s3 s4 r0 r1 r2 r3 r4 u0 u1 u2 u3 u4 gl0 gl2 gle e0 e1
  go_loopw [8] (fun i wr => ∃ k : Nat, i = .int .i64 k ∧ Aside0 (k ≤ n ∧ Fr w wr g ge k1 #[.int .i64 lo, .int .i64 hi, .int .i64 la, .slice A n c, .slice A' n' c'] #[.int .u32 a, .int .u16 p] #[.int .i64 0, .int .i64 0, .int .i64 0, .slice none 0 0, .slice none 0 0] 105 A n c l A' n' c' l' ∧ k ≤ n)) (fun i _ => n - num i)
  case atStart => exact ⟨0, rfl, HH⟩
  case round =>
    clear HH
    obtain ⟨k, rfl, ⟨hk, hF, hkn⟩⟩ := hrel
    have HF := Aside0.mk hF
    obtain ⟨p0, p1, p2, p3, p4, -⟩ := five HF.out.p1
    have hnn := HN.out
    have e1 : IntKind.i64.wrap ((k : Int) + 1) = (k : Int) + 1 := wid _ (by omega) (by omega)
    have i1 : (0 : Int) ≤ (k : Int) := by omega
    have i2 : (0 : Int) ≤ (k : Int) + 1 := by omega
    by_cases hlt : k < n
    · obtain ⟨ad, AEQ, y0, y1, y2⟩ := at_T175 HF.out.rw.C (k : Int) (by omega) (by omega)
      rw [Int.toNat_natCast, rd175 (by omega)] at y0 y1 y2
      have hkl : k < l.length := by omega
      obtain ⟨X, hX⟩ : ∃ X, l[k] = X := ⟨_, rfl⟩
      rw [hX] at y0 y1 y2
      have c0 : decide ((k : Int) < (n : Int)) = true := decide_eq_true (by omega)
      have c1_ : decide (k < n) = true := decide_eq_true (by omega)
      have c2_ : (k < n) = True := eq_true (by omega)
      have c3_ : ((k : Int) < (n : Int)) = True := eq_true (by omega)
      subst AEQ
      have HZ := Aside0.mk (And.intro (show k + 1 ≤ n by omega) (show k + 1 ≤ n by omega))
      have hno : (isE a p X && X.f1 == o) = false := by rw [← hX]; exact HX.out k hkl
      cases hq : (X.f0.f0 == a && (X.f0.f1 == p)) with
      | false =>
        clear hk hF hkn hnn hkl hX hno
        go_upto_region 4 with (fail)
        refine start_ (n := 18) (S := fun w' => (w'.heap[g]? = some (.cells #[.int .i64 lo, .int .i64 hi, .int .i64 la, .slice (some ad) n c, .slice A' n' c'] 100 (0, 0)) ∧ w'.heap[ge]? = some (.cells #[.int .u32 a, .int .u16 p] 105 (0, 0))) ∧ w'.cell? (ad.add (k * 3)) = some (.int .u32 X.f0.f0) ∧ w'.cell? ⟨(ad.add (k * 3)).block, (ad.add (k * 3)).off + 1, none⟩ = some (.int .u16 X.f0.f1) ∧ w'.cell? ⟨(ad.add (k * 3)).block, (ad.add (k * 3)).off + 2, none⟩ = some (.int .i64 X.f1)) (ds := []) (bb 18 0) (by kernel_rfl) rfl rfl (⟨⟨HF.out.p1, HF.out.pe⟩, y0, y1, y2⟩) (fun hHeld => ?_)
        replace HF := Aside0.mk (HF.out.below (below_drew (Below.refl _ _)))
        clear y0 y1 y2 p0 p1 p2 p3 p4
        generalize World.drew _ = w5 at HF hHeld ⊢
        refine pure_ (i := 0) (N := some 16) (v := ?_) (a' := ?_) (bb 18 1) rfl rfl (by kernel_rfl) (fun _ _ _ h => h) (Or.inl ⟨by rfl, ?_⟩) ?_ ?_
        rotate_left
        · intro w'
          go_simp
          with_reducible rfl
        rotate_left
        · simp only [Act.put, List.setIfInBounds_toArray, List.set_cons_zero, List.set_cons_succ, i64_w, i32_w]
          rfl
        refine take_ (i := 1) (N := some 17) (v := ?_) (a' := ?_) (bb 18 3) rfl rfl (by kernel_rfl) (fun _ _ _ h => h) (Or.inl ⟨by rfl, ?_⟩) hHeld ?_ ?_
        rotate_left
        · intro w' hSw
          obtain ⟨p0, p1, p2, p3, p4, -⟩ := five hSw.1.1
          have e0 := (blk_cell hSw.1.2 0).trans rfl
          have e1 := (blk_cell hSw.1.2 1).trans rfl
          obtain ⟨y0, y1, y2⟩ := hSw.2
          go_simp
          with_reducible rfl
        rotate_left
        · simp only [Act.put, List.setIfInBounds_toArray, List.set_cons_zero, List.set_cons_succ, i64_w, i32_w]
          rfl
        refine pure_ (i := 2) (N := some 18) (v := ?_) (a' := ?_) (bb 18 7) rfl rfl (by kernel_rfl) (fun _ _ _ h => h) (Or.inl ⟨by rfl, ?_⟩) ?_ ?_
        rotate_left
        · intro w'
          go_simp
          with_reducible rfl
        rotate_left
        · simp only [Act.put, List.setIfInBounds_toArray, List.set_cons_zero, List.set_cons_succ, i64_w, i32_w]
          rfl
        refine pure_ (i := 3) (N := some 19) (v := ?_) (a' := ?_) (bb 18 15) rfl rfl (by kernel_rfl) (fun _ _ _ h => h) (Or.inl ⟨by rfl, ?_⟩) ?_ ?_
        rotate_left
        · intro w'
          go_simp
          with_reducible rfl
        rotate_left
        · simp only [Act.put, List.setIfInBounds_toArray, List.set_cons_zero, List.set_cons_succ, i64_w, i32_w]
          rfl
        refine pure_ (i := 4) (N := some 20) (v := ?_) (a' := ?_) (bb 18 31) rfl rfl (by kernel_rfl) (fun _ _ _ h => h) (Or.inl ⟨by rfl, ?_⟩) ?_ ?_
        rotate_left
        · intro w'
          go_simp
          with_reducible rfl
        rotate_left
        · simp only [Act.put, List.setIfInBounds_toArray, List.set_cons_zero, List.set_cons_succ, i64_w, i32_w]
          rfl
        refine take_ (i := 5) (N := some 21) (v := ?_) (a' := ?_) (bb 18 63) rfl rfl (by kernel_rfl) (fun _ _ _ h => h) (Or.inl ⟨by rfl, ?_⟩) hHeld ?_ ?_
        rotate_left
        · intro w' hSw
          obtain ⟨p0, p1, p2, p3, p4, -⟩ := five hSw.1.1
          have e0 := (blk_cell hSw.1.2 0).trans rfl
          have e1 := (blk_cell hSw.1.2 1).trans rfl
          obtain ⟨y0, y1, y2⟩ := hSw.2
          go_simp
          with_reducible rfl
        rotate_left
        · simp only [Act.put, List.setIfInBounds_toArray, List.set_cons_zero, List.set_cons_succ, i64_w, i32_w]
          rfl
        refine take_ (i := 6) (N := some 22) (v := ?_) (a' := ?_) (bb 18 127) rfl rfl (by kernel_rfl) (fun _ _ _ h => h) (Or.inl ⟨by rfl, ?_⟩) hHeld ?_ ?_
        rotate_left
        · intro w' hSw
          obtain ⟨p0, p1, p2, p3, p4, -⟩ := five hSw.1.1
          have e0 := (blk_cell hSw.1.2 0).trans rfl
          have e1 := (blk_cell hSw.1.2 1).trans rfl
          obtain ⟨y0, y1, y2⟩ := hSw.2
          go_simp
          with_reducible rfl
        rotate_left
        · simp only [Act.put, List.setIfInBounds_toArray, List.set_cons_zero, List.set_cons_succ, i64_w, i32_w]
          rfl
        refine pure_ (i := 7) (N := some 23) (v := ?_) (a' := ?_) (bb 18 255) rfl rfl (by kernel_rfl) (fun _ _ _ h => h) (Or.inl ⟨by rfl, ?_⟩) ?_ ?_
        rotate_left
        · intro w'
          go_simp
          with_reducible rfl
        rotate_left
        · simp only [Act.put, List.setIfInBounds_toArray, List.set_cons_zero, List.set_cons_succ, i64_w, i32_w]
          rfl
        refine pure_ (i := 8) (N := some 24) (v := ?_) (a' := ?_) (bb 18 511) rfl rfl (by kernel_rfl) (fun _ _ _ h => h) (Or.inl ⟨by rfl, ?_⟩) ?_ ?_
        rotate_left
        · intro w'
          go_simp
          with_reducible rfl
        rotate_left
        · simp only [Act.put, List.setIfInBounds_toArray, List.set_cons_zero, List.set_cons_succ, i64_w, i32_w]
          rfl
        refine pure_ (i := 9) (N := some 25) (v := undef) (a' := ?_) (bb 18 1023) rfl rfl (by kernel_rfl) (fun _ _ _ h => h) (Or.inr ⟨by rfl, rfl⟩) ?_ ?_
        rotate_left
        · simp only [Act.put, List.setIfInBounds_toArray, List.set_cons_zero, List.set_cons_succ, i64_w, i32_w]
          rfl
        refine pure_ (i := 10) (N := some 26) (v := undef) (a' := ?_) (bb 18 2047) rfl rfl (by kernel_rfl) (fun _ _ _ h => h) (Or.inr ⟨by rfl, rfl⟩) ?_ ?_
        rotate_left
        · simp only [Act.put, List.setIfInBounds_toArray, List.set_cons_zero, List.set_cons_succ, i64_w, i32_w]
          rfl
        refine pure_ (i := 11) (N := some 27) (v := undef) (a' := ?_) (bb 18 4095) rfl rfl (by kernel_rfl) (fun _ _ _ h => h) (Or.inr ⟨by rfl, rfl⟩) ?_ ?_
        rotate_left
        · simp only [Act.put, List.setIfInBounds_toArray, List.set_cons_zero, List.set_cons_succ, i64_w, i32_w]
          rfl
        refine pure_ (i := 12) (N := some 28) (v := undef) (a' := ?_) (bb 18 8191) rfl rfl (by kernel_rfl) (fun _ _ _ h => h) (Or.inr ⟨by rfl, rfl⟩) ?_ ?_
        rotate_left
        · simp only [Act.put, List.setIfInBounds_toArray, List.set_cons_zero, List.set_cons_succ, i64_w, i32_w]
          rfl
        refine pure_ (i := 13) (N := some 29) (v := undef) (a' := ?_) (bb 18 16383) rfl rfl (by kernel_rfl) (fun _ _ _ h => h) (Or.inr ⟨by rfl, rfl⟩) ?_ ?_
        rotate_left
        · simp only [Act.put, List.setIfInBounds_toArray, List.set_cons_zero, List.set_cons_succ, i64_w, i32_w]
          rfl
        refine pure_ (i := 14) (N := some 30) (v := undef) (a' := ?_) (bb 18 32767) rfl rfl (by kernel_rfl) (fun _ _ _ h => h) (Or.inr ⟨by rfl, rfl⟩) ?_ ?_
        rotate_left
        · simp only [Act.put, List.setIfInBounds_toArray, List.set_cons_zero, List.set_cons_succ, i64_w, i32_w]
          rfl
        refine pure_ (i := 15) (N := some 31) (v := undef) (a' := ?_) (bb 18 65535) rfl rfl (by kernel_rfl) (fun _ _ _ h => h) (Or.inr ⟨by rfl, rfl⟩) ?_ ?_
        rotate_left
        · simp only [Act.put, List.setIfInBounds_toArray, List.set_cons_zero, List.set_cons_succ, i64_w, i32_w]
          rfl
        refine pure_ (i := 16) (N := some 32) (v := undef) (a' := ?_) (bb 18 131071) rfl rfl (by kernel_rfl) (fun _ _ _ h => h) (Or.inr ⟨by rfl, rfl⟩) ?_ ?_
        rotate_left
        · simp only [Act.put, List.setIfInBounds_toArray, List.set_cons_zero, List.set_cons_succ, i64_w, i32_w]
          rfl
        refine pure_ (i := 17) (N := some 33) (v := ?_) (a' := ?_) (bb 18 262143) rfl rfl (by kernel_rfl) (fun _ _ _ h => h) (Or.inl ⟨by rfl, ?_⟩) ?_ ?_
        rotate_left
        · intro w'
          go_simp
          with_reducible rfl
        rotate_left
        · simp only [Act.put, List.setIfInBounds_toArray, List.set_cons_zero, List.set_cons_succ, i64_w, i32_w]
          rfl
        refine done_ (by kernel_rfl) ?_
        clear hHeld
        go_wp2
        go_roundw
        case rel => exact ⟨k + 1, by go_num, ⟨HZ.out.1, HF.out, HZ.out.2⟩⟩
        case measure => simp only [num]; have := HZ.out.2; omega
      | true =>
        have hq2 : (X.f1 == o) = false := by unfold isE at hno; rw [hq, Bool.true_and] at hno; exact hno
        clear hk hF hkn hnn hkl hX hno
        go_upto_region 4 with (fail)
        refine start_ (n := 18) (S := fun w' => (w'.heap[g]? = some (.cells #[.int .i64 lo, .int .i64 hi, .int .i64 la, .slice (some ad) n c, .slice A' n' c'] 100 (0, 0)) ∧ w'.heap[ge]? = some (.cells #[.int .u32 a, .int .u16 p] 105 (0, 0))) ∧ w'.cell? (ad.add (k * 3)) = some (.int .u32 X.f0.f0) ∧ w'.cell? ⟨(ad.add (k * 3)).block, (ad.add (k * 3)).off + 1, none⟩ = some (.int .u16 X.f0.f1) ∧ w'.cell? ⟨(ad.add (k * 3)).block, (ad.add (k * 3)).off + 2, none⟩ = some (.int .i64 X.f1)) (ds := []) (bb 18 0) (by kernel_rfl) rfl rfl (⟨⟨HF.out.p1, HF.out.pe⟩, y0, y1, y2⟩) (fun hHeld => ?_)
        replace HF := Aside0.mk (HF.out.below (below_drew (Below.refl _ _)))
        clear y0 y1 y2 p0 p1 p2 p3 p4
        generalize World.drew _ = w5 at HF hHeld ⊢
        refine pure_ (i := 0) (N := some 16) (v := ?_) (a' := ?_) (bb 18 1) rfl rfl (by kernel_rfl) (fun _ _ _ h => h) (Or.inl ⟨by rfl, ?_⟩) ?_ ?_
        rotate_left
        · intro w'
          go_simp
          with_reducible rfl
        rotate_left
        · simp only [Act.put, List.setIfInBounds_toArray, List.set_cons_zero, List.set_cons_succ, i64_w, i32_w]
          rfl
        refine take_ (i := 1) (N := some 17) (v := ?_) (a' := ?_) (bb 18 3) rfl rfl (by kernel_rfl) (fun _ _ _ h => h) (Or.inl ⟨by rfl, ?_⟩) hHeld ?_ ?_
        rotate_left
        · intro w' hSw
          obtain ⟨p0, p1, p2, p3, p4, -⟩ := five hSw.1.1
          have e0 := (blk_cell hSw.1.2 0).trans rfl
          have e1 := (blk_cell hSw.1.2 1).trans rfl
          obtain ⟨y0, y1, y2⟩ := hSw.2
          go_simp
          with_reducible rfl
        rotate_left
        · simp only [Act.put, List.setIfInBounds_toArray, List.set_cons_zero, List.set_cons_succ, i64_w, i32_w]
          rfl
        refine pure_ (i := 2) (N := some 18) (v := ?_) (a' := ?_) (bb 18 7) rfl rfl (by kernel_rfl) (fun _ _ _ h => h) (Or.inl ⟨by rfl, ?_⟩) ?_ ?_
        rotate_left
        · intro w'
          go_simp
          with_reducible rfl
        rotate_left
        · simp only [Act.put, List.setIfInBounds_toArray, List.set_cons_zero, List.set_cons_succ, i64_w, i32_w]
          rfl
        refine pure_ (i := 3) (N := some 19) (v := ?_) (a' := ?_) (bb 18 15) rfl rfl (by kernel_rfl) (fun _ _ _ h => h) (Or.inl ⟨by rfl, ?_⟩) ?_ ?_
        rotate_left
        · intro w'
          go_simp
          with_reducible rfl
        rotate_left
        · simp only [Act.put, List.setIfInBounds_toArray, List.set_cons_zero, List.set_cons_succ, i64_w, i32_w]
          rfl
        refine pure_ (i := 4) (N := some 20) (v := ?_) (a' := ?_) (bb 18 31) rfl rfl (by kernel_rfl) (fun _ _ _ h => h) (Or.inl ⟨by rfl, ?_⟩) ?_ ?_
        rotate_left
        · intro w'
          go_simp
          with_reducible rfl
        rotate_left
        · simp only [Act.put, List.setIfInBounds_toArray, List.set_cons_zero, List.set_cons_succ, i64_w, i32_w]
          rfl
        refine take_ (i := 5) (N := some 21) (v := ?_) (a' := ?_) (bb 18 63) rfl rfl (by kernel_rfl) (fun _ _ _ h => h) (Or.inl ⟨by rfl, ?_⟩) hHeld ?_ ?_
        rotate_left
        · intro w' hSw
          obtain ⟨p0, p1, p2, p3, p4, -⟩ := five hSw.1.1
          have e0 := (blk_cell hSw.1.2 0).trans rfl
          have e1 := (blk_cell hSw.1.2 1).trans rfl
          obtain ⟨y0, y1, y2⟩ := hSw.2
          go_simp
          with_reducible rfl
        rotate_left
        · simp only [Act.put, List.setIfInBounds_toArray, List.set_cons_zero, List.set_cons_succ, i64_w, i32_w]
          rfl
        refine take_ (i := 6) (N := some 22) (v := ?_) (a' := ?_) (bb 18 127) rfl rfl (by kernel_rfl) (fun _ _ _ h => h) (Or.inl ⟨by rfl, ?_⟩) hHeld ?_ ?_
        rotate_left
        · intro w' hSw
          obtain ⟨p0, p1, p2, p3, p4, -⟩ := five hSw.1.1
          have e0 := (blk_cell hSw.1.2 0).trans rfl
          have e1 := (blk_cell hSw.1.2 1).trans rfl
          obtain ⟨y0, y1, y2⟩ := hSw.2
          go_simp
          with_reducible rfl
        rotate_left
        · simp only [Act.put, List.setIfInBounds_toArray, List.set_cons_zero, List.set_cons_succ, i64_w, i32_w]
          rfl
        refine pure_ (i := 7) (N := some 23) (v := ?_) (a' := ?_) (bb 18 255) rfl rfl (by kernel_rfl) (fun _ _ _ h => h) (Or.inl ⟨by rfl, ?_⟩) ?_ ?_
        rotate_left
        · intro w'
          go_simp
          with_reducible rfl
        rotate_left
        · simp only [Act.put, List.setIfInBounds_toArray, List.set_cons_zero, List.set_cons_succ, i64_w, i32_w]
          rfl
        refine pure_ (i := 8) (N := some 24) (v := ?_) (a' := ?_) (bb 18 511) rfl rfl (by kernel_rfl) (fun _ _ _ h => h) (Or.inl ⟨by rfl, ?_⟩) ?_ ?_
        rotate_left
        · intro w'
          go_simp
          with_reducible rfl
        rotate_left
        · simp only [Act.put, List.setIfInBounds_toArray, List.set_cons_zero, List.set_cons_succ, i64_w, i32_w]
          rfl
        refine pure_ (i := 9) (N := some 25) (v := ?_) (a' := ?_) (bb 18 1023) rfl rfl (by kernel_rfl) (fun _ _ _ h => h) (Or.inl ⟨by rfl, ?_⟩) ?_ ?_
        rotate_left
        · intro w'
          go_simp
          with_reducible rfl
        rotate_left
        · simp only [Act.put, List.setIfInBounds_toArray, List.set_cons_zero, List.set_cons_succ, i64_w, i32_w]
          rfl
        refine take_ (i := 10) (N := some 26) (v := ?_) (a' := ?_) (bb 18 2047) rfl rfl (by kernel_rfl) (fun _ _ _ h => h) (Or.inl ⟨by rfl, ?_⟩) hHeld ?_ ?_
        rotate_left
        · intro w' hSw
          obtain ⟨p0, p1, p2, p3, p4, -⟩ := five hSw.1.1
          have e0 := (blk_cell hSw.1.2 0).trans rfl
          have e1 := (blk_cell hSw.1.2 1).trans rfl
          obtain ⟨y0, y1, y2⟩ := hSw.2
          go_simp
          with_reducible rfl
        rotate_left
        · simp only [Act.put, List.setIfInBounds_toArray, List.set_cons_zero, List.set_cons_succ, i64_w, i32_w]
          rfl
        refine pure_ (i := 11) (N := some 27) (v := ?_) (a' := ?_) (bb 18 4095) rfl rfl (by kernel_rfl) (fun _ _ _ h => h) (Or.inl ⟨by rfl, ?_⟩) ?_ ?_
        rotate_left
        · intro w'
          go_simp
          with_reducible rfl
        rotate_left
        · simp only [Act.put, List.setIfInBounds_toArray, List.set_cons_zero, List.set_cons_succ, i64_w, i32_w]
          rfl
        refine pure_ (i := 12) (N := some 28) (v := ?_) (a' := ?_) (bb 18 8191) rfl rfl (by kernel_rfl) (fun _ _ _ h => h) (Or.inl ⟨by rfl, ?_⟩) ?_ ?_
        rotate_left
        · intro w'
          go_simp
          with_reducible rfl
        rotate_left
        · simp only [Act.put, List.setIfInBounds_toArray, List.set_cons_zero, List.set_cons_succ, i64_w, i32_w]
          rfl
        refine pure_ (i := 13) (N := some 29) (v := ?_) (a' := ?_) (bb 18 16383) rfl rfl (by kernel_rfl) (fun _ _ _ h => h) (Or.inl ⟨by rfl, ?_⟩) ?_ ?_
        rotate_left
        · intro w'
          go_simp
          with_reducible rfl
        rotate_left
        · simp only [Act.put, List.setIfInBounds_toArray, List.set_cons_zero, List.set_cons_succ, i64_w, i32_w]
          rfl
        refine take_ (i := 14) (N := some 30) (v := ?_) (a' := ?_) (bb 18 32767) rfl rfl (by kernel_rfl) (fun _ _ _ h => h) (Or.inl ⟨by rfl, ?_⟩) hHeld ?_ ?_
        rotate_left
        · intro w' hSw
          obtain ⟨p0, p1, p2, p3, p4, -⟩ := five hSw.1.1
          have e0 := (blk_cell hSw.1.2 0).trans rfl
          have e1 := (blk_cell hSw.1.2 1).trans rfl
          obtain ⟨y0, y1, y2⟩ := hSw.2
          go_simp
          with_reducible rfl
        rotate_left
        · simp only [Act.put, List.setIfInBounds_toArray, List.set_cons_zero, List.set_cons_succ, i64_w, i32_w]
          rfl
        refine pure_ (i := 15) (N := some 31) (v := ?_) (a' := ?_) (bb 18 65535) rfl rfl (by kernel_rfl) (fun _ _ _ h => h) (Or.inl ⟨by rfl, ?_⟩) ?_ ?_
        rotate_left
        · intro w'
          go_simp
          with_reducible rfl
        rotate_left
        · simp only [Act.put, List.setIfInBounds_toArray, List.set_cons_zero, List.set_cons_succ, i64_w, i32_w]
          rfl
        refine pure_ (i := 16) (N := some 32) (v := ?_) (a' := ?_) (bb 18 131071) rfl rfl (by kernel_rfl) (fun _ _ _ h => h) (Or.inl ⟨by rfl, ?_⟩) ?_ ?_
        rotate_left
        · intro w'
          go_simp
          with_reducible rfl
        rotate_left
        · simp only [Act.put, List.setIfInBounds_toArray, List.set_cons_zero, List.set_cons_succ, i64_w, i32_w]
          rfl
        refine pure_ (i := 17) (N := some 33) (v := ?_) (a' := ?_) (bb 18 262143) rfl rfl (by kernel_rfl) (fun _ _ _ h => h) (Or.inl ⟨by rfl, ?_⟩) ?_ ?_
        rotate_left
        · intro w'
          go_simp
          with_reducible rfl
        rotate_left
        · simp only [Act.put, List.setIfInBounds_toArray, List.set_cons_zero, List.set_cons_succ, i64_w, i32_w]
          rfl
        refine done_ (by kernel_rfl) ?_
        clear hHeld
        go_wp2
        go_roundw
        case rel => exact ⟨k + 1, by go_num, ⟨HZ.out.1, HF.out, HZ.out.2⟩⟩
        case measure => simp only [num]; have := HZ.out.2; omega
    · have c0 : decide ((k : Int) < (n : Int)) = false := decide_eq_false (by omega)
      have c1_ : decide (k < n) = false := decide_eq_false hlt
      have HP1 := Aside0.mk HF.out.p1
      have HP2 := Aside0.mk HF.out.p2
      have HB := Aside0.mk HF.out.bl
      clear hk hF hkn hnn hlt
      obtain ⟨r0, r1, r2, r3, r4, u0, u1, u2, u3, u4⟩ := five HP2.out
      go_wp2
      refine bodyPost_ret (results_ct rfl _ _ k1 100 #[.int .i64 lo, .int .i64 hi, .int .i64 la, .slice A n c, .slice A' n' c'] (0, 0) _ rfl (five_put HP2.out _ _ _ _ _) Try.underlying100 rfl (by kernel_rfl)) rfl ?_
      exact ⟨rfl, five_b HB.out HG.out.2.1 _ _ _ _ _⟩
set_option maxRecDepth 100000 in
set_option maxHeartbeats 16000000 in
theorem runbind_out (lo hi la : Int) {A : Option Addr} {n c : Nat} {l : List S175} {A' : Option Addr} {n' c' : Nat} {l' : List S177} {w : World} (h : Rw w A n c l A' n' c' l') (a p o : Int) (k0 : Nat) (hk0 : k0 < n) (hf : ∃ h : k0 < l.length, (isE a p l[k0] && l[k0].f1 == o) = true) (hn : ∀ j (h : j < l.length), j < k0 → (isE a p l[j] && l[j].f1 == o) = false) :
    Calls Try.prog 85 #[rt lo hi la A n c A' n' c', .agg #[.int .u32 a, .int .u16 p], .int .i64 o] w fun e w' => ∃ A1 c1, e = .returned (.tuple #[rt lo hi la A1 (n - 1) c1 A' n' c', .int .i64 0]) ∧ Kd.R k175 175 w' w.heap.size (fun _ => True) (.slice A1 (n - 1) c1) (l.eraseIdx k0) ∧ Below w.heap.size w w' := by
  have hlen := h.len; have hfew := h.few; have hcap := h.cap
  have HX := Aside0.mk (And.intro hk0 (And.intro hf hn))
  have HQ := Aside0.mk (And.intro (show (l.eraseIdx k0).length = n - 1 by rw [List.length_eraseIdx, if_pos (by omega), hlen]) (cut_list l k0))
  obtain ⟨i, hi, hz0, hz1, hz2⟩ := info_parts info175
  have hcut1 := cut_to (P := Try.prog) 97 175 .i64 Try.underlying97 hi A n c (k0 : Int) (by omega) (by omega) hcap
  have hcut2 := cut_from (P := Try.prog) 97 175 .i64 Try.underlying97 hi 3 hz1 A n c ((k0 : Int) + 1) (by omega) (by omega)
  rw [Int.toNat_natCast] at hcut1
  rw [show ((k0 : Int) + 1).toNat = k0 + 1 by omega] at hcut2
  clear hi hz0 hz1 hz2 hf hn
  have HN := Aside0.mk (And.intro hlen (And.intro hfew hcap))
  clear hlen hfew hcap hk0
  have H := Aside0.mk h
  unfold rt
  clear h
  go_enter Try.func85, Try.ntmps85
  go_upto_region 1 with (fail)
  obtain ⟨hb1, hbe, hb2, hB⟩ := boxed3 w (.cells #[.int .i64 lo, .int .i64 hi, .int .i64 la, .slice A n c, .slice A' n' c'] 100) (.cells #[.int .u32 a, .int .u16 p] 105) (.cells #[.int .i64 0, .int .i64 0, .int .i64 0, .slice none 0 0, .slice none 0 0] 100)
  generalize ((w.alloc (.cells #[.int .i64 lo, .int .i64 hi, .int .i64 la, .slice A n c, .slice A' n' c'] 100)).alloc (.cells #[.int .u32 a, .int .u16 p] 105)).alloc (.cells #[.int .i64 0, .int .i64 0, .int .i64 0, .slice none 0 0, .slice none 0 0] 100) = w1 at hb1 hbe hb2 hB ⊢
  have HB := Aside0.mk hB
  have H1 := Aside0.mk (H.out.below hB)
  obtain ⟨k1, hk1⟩ : ∃ k1, k1 = w.heap.size + 1 + 1 := ⟨_, rfl⟩
  obtain ⟨ge, hge⟩ : ∃ ge, ge = w.heap.size + 1 := ⟨_, rfl⟩
  rw [← hk1] at hb2 ⊢
  rw [← hge] at hbe ⊢
  obtain ⟨g, hg⟩ : ∃ g, w.heap.size = g := ⟨_, rfl⟩
  rw [hg] at hb1 ⊢
  have HG := Aside0.mk (show w.heap.size ≤ g ∧ w.heap.size ≤ k1 ∧ k1 ≠ g ∧ g ≠ k1 ∧ ge ≠ g ∧ ge ≠ k1 by omega)
  have HP1 := Aside0.mk hb1
  have HPE := Aside0.mk hbe
  have HP2 := Aside0.mk hb2
  clear hB hb1 hbe hb2 hg hk1 hge
  obtain ⟨p0, p1, p2, p3, p4, s0, s1, s2, s3, s4⟩ := five HP1.out
  obtain ⟨r0, r1, r2, r3, r4, u0, u1, u2, u3, u4⟩ := five HP2.out
  have e0 := (blk_cell HPE.out 0).trans rfl
  have e1 := (blk_cell HPE.out 1).trans rfl
  have gl0 := blk_lt HP1.out
  have gl2 := blk_lt HP2.out
  have gle := blk_lt HPE.out
  go_wp2
  have HH : Aside0 (0 ≤ k0 ∧ Fr w w1 g ge k1 #[.int .i64 lo, .int .i64 hi, .int .i64 la, .slice A n c, .slice A' n' c'] #[.int .u32 a, .int .u16 p] #[.int .i64 0, .int .i64 0, .int .i64 0, .slice none 0 0, .slice none 0 0] 105 A n c l A' n' c' l' ∧ 0 ≤ n) := ⟨Nat.zero_le _, ⟨HP1.out, HPE.out, HP2.out, H1.out, HB.out⟩, Nat.zero_le _⟩
  clear HP1 HPE HP2 H1 HB
  clear p0 p1 p2 p3 p4 s0 s1 s2 s3 s4 r0 r1 r2 r3 r4 u0 u1 u2 u3 u4 gl0 gl2 gle e0 e1
  go_loopw [8] (fun i wr => ∃ k : Nat, i = .int .i64 k ∧ Aside0 (k ≤ k0 ∧ Fr w wr g ge k1 #[.int .i64 lo, .int .i64 hi, .int .i64 la, .slice A n c, .slice A' n' c'] #[.int .u32 a, .int .u16 p] #[.int .i64 0, .int .i64 0, .int .i64 0, .slice none 0 0, .slice none 0 0] 105 A n c l A' n' c' l' ∧ k ≤ n)) (fun i _ => n - num i)
  case atStart => exact ⟨0, rfl, HH⟩
  case round =>
    clear HH
    obtain ⟨k, rfl, ⟨hk, hF, hkn⟩⟩ := hrel
    have HF := Aside0.mk hF
    obtain ⟨p0, p1, p2, p3, p4, -⟩ := five HF.out.p1
    have hnn := HN.out
    have e1 : IntKind.i64.wrap ((k : Int) + 1) = (k : Int) + 1 := wid _ (by omega) (by omega)
    have i1 : (0 : Int) ≤ (k : Int) := by omega
    have i2 : (0 : Int) ≤ (k : Int) + 1 := by omega
    have hk0' := HX.out.1
    obtain ⟨ad, AEQ, y0, y1, y2⟩ := at_T175 HF.out.rw.C (k : Int) (by omega) (by omega)
    rw [Int.toNat_natCast, rd175 (by omega)] at y0 y1 y2
    have hkl : k < l.length := by omega
    obtain ⟨X, hX⟩ : ∃ X, l[k] = X := ⟨_, rfl⟩
    rw [hX] at y0 y1 y2
    have c0 : decide ((k : Int) < (n : Int)) = true := decide_eq_true (by omega)
    have c1_ : decide (k < n) = true := decide_eq_true (by omega)
    have c2_ : (k < n) = True := eq_true (by omega)
    have c3_ : ((k : Int) < (n : Int)) = True := eq_true (by omega)
    clear hk0'
    by_cases hlt : k < k0
    · subst AEQ
      have HZ := Aside0.mk (And.intro (show k + 1 ≤ k0 by omega) (show k + 1 ≤ n by omega))
      have hno : (isE a p X && X.f1 == o) = false := by rw [← hX]; exact HX.out.2.2 k hkl (by omega)
      cases hq : (X.f0.f0 == a && (X.f0.f1 == p)) with
      | false =>
        clear hk hF hkn hnn hkl hX hno
        go_upto_region 4 with (fail)
        refine start_ (n := 18) (S := fun w' => (w'.heap[g]? = some (.cells #[.int .i64 lo, .int .i64 hi, .int .i64 la, .slice (some ad) n c, .slice A' n' c'] 100 (0, 0)) ∧ w'.heap[ge]? = some (.cells #[.int .u32 a, .int .u16 p] 105 (0, 0))) ∧ w'.cell? (ad.add (k * 3)) = some (.int .u32 X.f0.f0) ∧ w'.cell? ⟨(ad.add (k * 3)).block, (ad.add (k * 3)).off + 1, none⟩ = some (.int .u16 X.f0.f1) ∧ w'.cell? ⟨(ad.add (k * 3)).block, (ad.add (k * 3)).off + 2, none⟩ = some (.int .i64 X.f1)) (ds := []) (bb 18 0) (by kernel_rfl) rfl rfl (⟨⟨HF.out.p1, HF.out.pe⟩, y0, y1, y2⟩) (fun hHeld => ?_)
        replace HF := Aside0.mk (HF.out.below (below_drew (Below.refl _ _)))
        clear y0 y1 y2 p0 p1 p2 p3 p4
        generalize World.drew _ = w5 at HF hHeld ⊢
        refine pure_ (i := 0) (N := some 16) (v := ?_) (a' := ?_) (bb 18 1) rfl rfl (by kernel_rfl) (fun _ _ _ h => h) (Or.inl ⟨by rfl, ?_⟩) ?_ ?_
        rotate_left
        · intro w'
          go_simp
          with_reducible rfl
        rotate_left
        · simp only [Act.put, List.setIfInBounds_toArray, List.set_cons_zero, List.set_cons_succ, i64_w, i32_w]
          rfl
        refine take_ (i := 1) (N := some 17) (v := ?_) (a' := ?_) (bb 18 3) rfl rfl (by kernel_rfl) (fun _ _ _ h => h) (Or.inl ⟨by rfl, ?_⟩) hHeld ?_ ?_
        rotate_left
        · intro w' hSw
          obtain ⟨p0, p1, p2, p3, p4, -⟩ := five hSw.1.1
          have e0 := (blk_cell hSw.1.2 0).trans rfl
          have e1 := (blk_cell hSw.1.2 1).trans rfl
          obtain ⟨y0, y1, y2⟩ := hSw.2
          go_simp
          with_reducible rfl
        rotate_left
        · simp only [Act.put, List.setIfInBounds_toArray, List.set_cons_zero, List.set_cons_succ, i64_w, i32_w]
          rfl
        refine pure_ (i := 2) (N := some 18) (v := ?_) (a' := ?_) (bb 18 7) rfl rfl (by kernel_rfl) (fun _ _ _ h => h) (Or.inl ⟨by rfl, ?_⟩) ?_ ?_
        rotate_left
        · intro w'
          go_simp
          with_reducible rfl
        rotate_left
        · simp only [Act.put, List.setIfInBounds_toArray, List.set_cons_zero, List.set_cons_succ, i64_w, i32_w]
          rfl
        refine pure_ (i := 3) (N := some 19) (v := ?_) (a' := ?_) (bb 18 15) rfl rfl (by kernel_rfl) (fun _ _ _ h => h) (Or.inl ⟨by rfl, ?_⟩) ?_ ?_
        rotate_left
        · intro w'
          go_simp
          with_reducible rfl
        rotate_left
        · simp only [Act.put, List.setIfInBounds_toArray, List.set_cons_zero, List.set_cons_succ, i64_w, i32_w]
          rfl
        refine pure_ (i := 4) (N := some 20) (v := ?_) (a' := ?_) (bb 18 31) rfl rfl (by kernel_rfl) (fun _ _ _ h => h) (Or.inl ⟨by rfl, ?_⟩) ?_ ?_
        rotate_left
        · intro w'
          go_simp
          with_reducible rfl
        rotate_left
        · simp only [Act.put, List.setIfInBounds_toArray, List.set_cons_zero, List.set_cons_succ, i64_w, i32_w]
          rfl
        refine take_ (i := 5) (N := some 21) (v := ?_) (a' := ?_) (bb 18 63) rfl rfl (by kernel_rfl) (fun _ _ _ h => h) (Or.inl ⟨by rfl, ?_⟩) hHeld ?_ ?_
        rotate_left
        · intro w' hSw
          obtain ⟨p0, p1, p2, p3, p4, -⟩ := five hSw.1.1
          have e0 := (blk_cell hSw.1.2 0).trans rfl
          have e1 := (blk_cell hSw.1.2 1).trans rfl
          obtain ⟨y0, y1, y2⟩ := hSw.2
          go_simp
          with_reducible rfl
        rotate_left
        · simp only [Act.put, List.setIfInBounds_toArray, List.set_cons_zero, List.set_cons_succ, i64_w, i32_w]
          rfl
        refine take_ (i := 6) (N := some 22) (v := ?_) (a' := ?_) (bb 18 127) rfl rfl (by kernel_rfl) (fun _ _ _ h => h) (Or.inl ⟨by rfl, ?_⟩) hHeld ?_ ?_
        rotate_left
        · intro w' hSw
          obtain ⟨p0, p1, p2, p3, p4, -⟩ := five hSw.1.1
          have e0 := (blk_cell hSw.1.2 0).trans rfl
          have e1 := (blk_cell hSw.1.2 1).trans rfl
          obtain ⟨y0, y1, y2⟩ := hSw.2
          go_simp
          with_reducible rfl
        rotate_left
        · simp only [Act.put, List.setIfInBounds_toArray, List.set_cons_zero, List.set_cons_succ, i64_w, i32_w]
          rfl
        refine pure_ (i := 7) (N := some 23) (v := ?_) (a' := ?_) (bb 18 255) rfl rfl (by kernel_rfl) (fun _ _ _ h => h) (Or.inl ⟨by rfl, ?_⟩) ?_ ?_
        rotate_left
        · intro w'
          go_simp
          with_reducible rfl
        rotate_left
        · simp only [Act.put, List.setIfInBounds_toArray, List.set_cons_zero, List.set_cons_succ, i64_w, i32_w]
          rfl
        refine pure_ (i := 8) (N := some 24) (v := ?_) (a' := ?_) (bb 18 511) rfl rfl (by kernel_rfl) (fun _ _ _ h => h) (Or.inl ⟨by rfl, ?_⟩) ?_ ?_
        rotate_left
        · intro w'
          go_simp
          with_reducible rfl
        rotate_left
        · simp only [Act.put, List.setIfInBounds_toArray, List.set_cons_zero, List.set_cons_succ, i64_w, i32_w]
          rfl
        refine pure_ (i := 9) (N := some 25) (v := undef) (a' := ?_) (bb 18 1023) rfl rfl (by kernel_rfl) (fun _ _ _ h => h) (Or.inr ⟨by rfl, rfl⟩) ?_ ?_
        rotate_left
        · simp only [Act.put, List.setIfInBounds_toArray, List.set_cons_zero, List.set_cons_succ, i64_w, i32_w]
          rfl
        refine pure_ (i := 10) (N := some 26) (v := undef) (a' := ?_) (bb 18 2047) rfl rfl (by kernel_rfl) (fun _ _ _ h => h) (Or.inr ⟨by rfl, rfl⟩) ?_ ?_
        rotate_left
        · simp only [Act.put, List.setIfInBounds_toArray, List.set_cons_zero, List.set_cons_succ, i64_w, i32_w]
          rfl
        refine pure_ (i := 11) (N := some 27) (v := undef) (a' := ?_) (bb 18 4095) rfl rfl (by kernel_rfl) (fun _ _ _ h => h) (Or.inr ⟨by rfl, rfl⟩) ?_ ?_
        rotate_left
        · simp only [Act.put, List.setIfInBounds_toArray, List.set_cons_zero, List.set_cons_succ, i64_w, i32_w]
          rfl
        refine pure_ (i := 12) (N := some 28) (v := undef) (a' := ?_) (bb 18 8191) rfl rfl (by kernel_rfl) (fun _ _ _ h => h) (Or.inr ⟨by rfl, rfl⟩) ?_ ?_
        rotate_left
        · simp only [Act.put, List.setIfInBounds_toArray, List.set_cons_zero, List.set_cons_succ, i64_w, i32_w]
          rfl
        refine pure_ (i := 13) (N := some 29) (v := undef) (a' := ?_) (bb 18 16383) rfl rfl (by kernel_rfl) (fun _ _ _ h => h) (Or.inr ⟨by rfl, rfl⟩) ?_ ?_
        rotate_left
        · simp only [Act.put, List.setIfInBounds_toArray, List.set_cons_zero, List.set_cons_succ, i64_w, i32_w]
          rfl
        refine pure_ (i := 14) (N := some 30) (v := undef) (a' := ?_) (bb 18 32767) rfl rfl (by kernel_rfl) (fun _ _ _ h => h) (Or.inr ⟨by rfl, rfl⟩) ?_ ?_
        rotate_left
        · simp only [Act.put, List.setIfInBounds_toArray, List.set_cons_zero, List.set_cons_succ, i64_w, i32_w]
          rfl
        refine pure_ (i := 15) (N := some 31) (v := undef) (a' := ?_) (bb 18 65535) rfl rfl (by kernel_rfl) (fun _ _ _ h => h) (Or.inr ⟨by rfl, rfl⟩) ?_ ?_
        rotate_left
        · simp only [Act.put, List.setIfInBounds_toArray, List.set_cons_zero, List.set_cons_succ, i64_w, i32_w]
          rfl
        refine pure_ (i := 16) (N := some 32) (v := undef) (a' := ?_) (bb 18 131071) rfl rfl (by kernel_rfl) (fun _ _ _ h => h) (Or.inr ⟨by rfl, rfl⟩) ?_ ?_
        rotate_left
        · simp only [Act.put, List.setIfInBounds_toArray, List.set_cons_zero, List.set_cons_succ, i64_w, i32_w]
          rfl
        refine pure_ (i := 17) (N := some 33) (v := ?_) (a' := ?_) (bb 18 262143) rfl rfl (by kernel_rfl) (fun _ _ _ h => h) (Or.inl ⟨by rfl, ?_⟩) ?_ ?_
        rotate_left
        · intro w'
          go_simp
          with_reducible rfl
        rotate_left
        · simp only [Act.put, List.setIfInBounds_toArray, List.set_cons_zero, List.set_cons_succ, i64_w, i32_w]
          rfl
        refine done_ (by kernel_rfl) ?_
        clear hHeld
        go_wp2
        go_roundw
        case rel => exact ⟨k + 1, by go_num, ⟨HZ.out.1, HF.out, HZ.out.2⟩⟩
        case measure => simp only [num]; have := HZ.out.2; omega
      | true =>
        have hq2 : (X.f1 == o) = false := by unfold isE at hno; rw [hq, Bool.true_and] at hno; exact hno
        clear hk hF hkn hnn hkl hX hno
        go_upto_region 4 with (fail)
        refine start_ (n := 18) (S := fun w' => (w'.heap[g]? = some (.cells #[.int .i64 lo, .int .i64 hi, .int .i64 la, .slice (some ad) n c, .slice A' n' c'] 100 (0, 0)) ∧ w'.heap[ge]? = some (.cells #[.int .u32 a, .int .u16 p] 105 (0, 0))) ∧ w'.cell? (ad.add (k * 3)) = some (.int .u32 X.f0.f0) ∧ w'.cell? ⟨(ad.add (k * 3)).block, (ad.add (k * 3)).off + 1, none⟩ = some (.int .u16 X.f0.f1) ∧ w'.cell? ⟨(ad.add (k * 3)).block, (ad.add (k * 3)).off + 2, none⟩ = some (.int .i64 X.f1)) (ds := []) (bb 18 0) (by kernel_rfl) rfl rfl (⟨⟨HF.out.p1, HF.out.pe⟩, y0, y1, y2⟩) (fun hHeld => ?_)
        replace HF := Aside0.mk (HF.out.below (below_drew (Below.refl _ _)))
        clear y0 y1 y2 p0 p1 p2 p3 p4
        generalize World.drew _ = w5 at HF hHeld ⊢
        refine pure_ (i := 0) (N := some 16) (v := ?_) (a' := ?_) (bb 18 1) rfl rfl (by kernel_rfl) (fun _ _ _ h => h) (Or.inl ⟨by rfl, ?_⟩) ?_ ?_
        rotate_left
        · intro w'
          go_simp
          with_reducible rfl
        rotate_left
        · simp only [Act.put, List.setIfInBounds_toArray, List.set_cons_zero, List.set_cons_succ, i64_w, i32_w]
          rfl
        refine take_ (i := 1) (N := some 17) (v := ?_) (a' := ?_) (bb 18 3) rfl rfl (by kernel_rfl) (fun _ _ _ h => h) (Or.inl ⟨by rfl, ?_⟩) hHeld ?_ ?_
        rotate_left
        · intro w' hSw
          obtain ⟨p0, p1, p2, p3, p4, -⟩ := five hSw.1.1
          have e0 := (blk_cell hSw.1.2 0).trans rfl
          have e1 := (blk_cell hSw.1.2 1).trans rfl
          obtain ⟨y0, y1, y2⟩ := hSw.2
          go_simp
          with_reducible rfl
        rotate_left
        · simp only [Act.put, List.setIfInBounds_toArray, List.set_cons_zero, List.set_cons_succ, i64_w, i32_w]
          rfl
        refine pure_ (i := 2) (N := some 18) (v := ?_) (a' := ?_) (bb 18 7) rfl rfl (by kernel_rfl) (fun _ _ _ h => h) (Or.inl ⟨by rfl, ?_⟩) ?_ ?_
        rotate_left
        · intro w'
          go_simp
          with_reducible rfl
        rotate_left
        · simp only [Act.put, List.setIfInBounds_toArray, List.set_cons_zero, List.set_cons_succ, i64_w, i32_w]
          rfl
        refine pure_ (i := 3) (N := some 19) (v := ?_) (a' := ?_) (bb 18 15) rfl rfl (by kernel_rfl) (fun _ _ _ h => h) (Or.inl ⟨by rfl, ?_⟩) ?_ ?_
        rotate_left
        · intro w'
          go_simp
          with_reducible rfl
        rotate_left
        · simp only [Act.put, List.setIfInBounds_toArray, List.set_cons_zero, List.set_cons_succ, i64_w, i32_w]
          rfl
        refine pure_ (i := 4) (N := some 20) (v := ?_) (a' := ?_) (bb 18 31) rfl rfl (by kernel_rfl) (fun _ _ _ h => h) (Or.inl ⟨by rfl, ?_⟩) ?_ ?_
        rotate_left
        · intro w'
          go_simp
          with_reducible rfl
        rotate_left
        · simp only [Act.put, List.setIfInBounds_toArray, List.set_cons_zero, List.set_cons_succ, i64_w, i32_w]
          rfl
        refine take_ (i := 5) (N := some 21) (v := ?_) (a' := ?_) (bb 18 63) rfl rfl (by kernel_rfl) (fun _ _ _ h => h) (Or.inl ⟨by rfl, ?_⟩) hHeld ?_ ?_
        rotate_left
        · intro w' hSw
          obtain ⟨p0, p1, p2, p3, p4, -⟩ := five hSw.1.1
          have e0 := (blk_cell hSw.1.2 0).trans rfl
          have e1 := (blk_cell hSw.1.2 1).trans rfl
          obtain ⟨y0, y1, y2⟩ := hSw.2
          go_simp
          with_reducible rfl
        rotate_left
        · simp only [Act.put, List.setIfInBounds_toArray, List.set_cons_zero, List.set_cons_succ, i64_w, i32_w]
          rfl
        refine take_ (i := 6) (N := some 22) (v := ?_) (a' := ?_) (bb 18 127) rfl rfl (by kernel_rfl) (fun _ _ _ h => h) (Or.inl ⟨by rfl, ?_⟩) hHeld ?_ ?_
        rotate_left
        · intro w' hSw
          obtain ⟨p0, p1, p2, p3, p4, -⟩ := five hSw.1.1
          have e0 := (blk_cell hSw.1.2 0).trans rfl
          have e1 := (blk_cell hSw.1.2 1).trans rfl
          obtain ⟨y0, y1, y2⟩ := hSw.2
          go_simp
          with_reducible rfl
        rotate_left
        · simp only [Act.put, List.setIfInBounds_toArray, List.set_cons_zero, List.set_cons_succ, i64_w, i32_w]
          rfl
        refine pure_ (i := 7) (N := some 23) (v := ?_) (a' := ?_) (bb 18 255) rfl rfl (by kernel_rfl) (fun _ _ _ h => h) (Or.inl ⟨by rfl, ?_⟩) ?_ ?_
        rotate_left
        · intro w'
          go_simp
          with_reducible rfl
        rotate_left
        · simp only [Act.put, List.setIfInBounds_toArray, List.set_cons_zero, List.set_cons_succ, i64_w, i32_w]
          rfl
        refine pure_ (i := 8) (N := some 24) (v := ?_) (a' := ?_) (bb 18 511) rfl rfl (by kernel_rfl) (fun _ _ _ h => h) (Or.inl ⟨by rfl, ?_⟩) ?_ ?_
        rotate_left
        · intro w'
          go_simp
          with_reducible rfl
        rotate_left
        · simp only [Act.put, List.setIfInBounds_toArray, List.set_cons_zero, List.set_cons_succ, i64_w, i32_w]
          rfl
        refine pure_ (i := 9) (N := some 25) (v := ?_) (a' := ?_) (bb 18 1023) rfl rfl (by kernel_rfl) (fun _ _ _ h => h) (Or.inl ⟨by rfl, ?_⟩) ?_ ?_
        rotate_left
        · intro w'
          go_simp
          with_reducible rfl
        rotate_left
        · simp only [Act.put, List.setIfInBounds_toArray, List.set_cons_zero, List.set_cons_succ, i64_w, i32_w]
          rfl
        refine take_ (i := 10) (N := some 26) (v := ?_) (a' := ?_) (bb 18 2047) rfl rfl (by kernel_rfl) (fun _ _ _ h => h) (Or.inl ⟨by rfl, ?_⟩) hHeld ?_ ?_
        rotate_left
        · intro w' hSw
          obtain ⟨p0, p1, p2, p3, p4, -⟩ := five hSw.1.1
          have e0 := (blk_cell hSw.1.2 0).trans rfl
          have e1 := (blk_cell hSw.1.2 1).trans rfl
          obtain ⟨y0, y1, y2⟩ := hSw.2
          go_simp
          with_reducible rfl
        rotate_left
        · simp only [Act.put, List.setIfInBounds_toArray, List.set_cons_zero, List.set_cons_succ, i64_w, i32_w]
          rfl
        refine pure_ (i := 11) (N := some 27) (v := ?_) (a' := ?_) (bb 18 4095) rfl rfl (by kernel_rfl) (fun _ _ _ h => h) (Or.inl ⟨by rfl, ?_⟩) ?_ ?_
        rotate_left
        · intro w'
          go_simp
          with_reducible rfl
        rotate_left
        · simp only [Act.put, List.setIfInBounds_toArray, List.set_cons_zero, List.set_cons_succ, i64_w, i32_w]
          rfl
        refine pure_ (i := 12) (N := some 28) (v := ?_) (a' := ?_) (bb 18 8191) rfl rfl (by kernel_rfl) (fun _ _ _ h => h) (Or.inl ⟨by rfl, ?_⟩) ?_ ?_
        rotate_left
        · intro w'
          go_simp
          with_reducible rfl
        rotate_left
        · simp only [Act.put, List.setIfInBounds_toArray, List.set_cons_zero, List.set_cons_succ, i64_w, i32_w]
          rfl
        refine pure_ (i := 13) (N := some 29) (v := ?_) (a' := ?_) (bb 18 16383) rfl rfl (by kernel_rfl) (fun _ _ _ h => h) (Or.inl ⟨by rfl, ?_⟩) ?_ ?_
        rotate_left
        · intro w'
          go_simp
          with_reducible rfl
        rotate_left
        · simp only [Act.put, List.setIfInBounds_toArray, List.set_cons_zero, List.set_cons_succ, i64_w, i32_w]
          rfl
        refine take_ (i := 14) (N := some 30) (v := ?_) (a' := ?_) (bb 18 32767) rfl rfl (by kernel_rfl) (fun _ _ _ h => h) (Or.inl ⟨by rfl, ?_⟩) hHeld ?_ ?_
        rotate_left
        · intro w' hSw
          obtain ⟨p0, p1, p2, p3, p4, -⟩ := five hSw.1.1
          have e0 := (blk_cell hSw.1.2 0).trans rfl
          have e1 := (blk_cell hSw.1.2 1).trans rfl
          obtain ⟨y0, y1, y2⟩ := hSw.2
          go_simp
          with_reducible rfl
        rotate_left
        · simp only [Act.put, List.setIfInBounds_toArray, List.set_cons_zero, List.set_cons_succ, i64_w, i32_w]
          rfl
        refine pure_ (i := 15) (N := some 31) (v := ?_) (a' := ?_) (bb 18 65535) rfl rfl (by kernel_rfl) (fun _ _ _ h => h) (Or.inl ⟨by rfl, ?_⟩) ?_ ?_
        rotate_left
        · intro w'
          go_simp
          with_reducible rfl
        rotate_left
        · simp only [Act.put, List.setIfInBounds_toArray, List.set_cons_zero, List.set_cons_succ, i64_w, i32_w]
          rfl
        refine pure_ (i := 16) (N := some 32) (v := ?_) (a' := ?_) (bb 18 131071) rfl rfl (by kernel_rfl) (fun _ _ _ h => h) (Or.inl ⟨by rfl, ?_⟩) ?_ ?_
        rotate_left
        · intro w'
          go_simp
          with_reducible rfl
        rotate_left
        · simp only [Act.put, List.setIfInBounds_toArray, List.set_cons_zero, List.set_cons_succ, i64_w, i32_w]
          rfl
        refine pure_ (i := 17) (N := some 33) (v := ?_) (a' := ?_) (bb 18 262143) rfl rfl (by kernel_rfl) (fun _ _ _ h => h) (Or.inl ⟨by rfl, ?_⟩) ?_ ?_
        rotate_left
        · intro w'
          go_simp
          with_reducible rfl
        rotate_left
        · simp only [Act.put, List.setIfInBounds_toArray, List.set_cons_zero, List.set_cons_succ, i64_w, i32_w]
          rfl
        refine done_ (by kernel_rfl) ?_
        clear hHeld
        go_wp2
        go_roundw
        case rel => exact ⟨k + 1, by go_num, ⟨HZ.out.1, HF.out, HZ.out.2⟩⟩
        case measure => simp only [num]; have := HZ.out.2; omega
    · obtain rfl : k = k0 := by omega
      have hk0' := HX.out.1
      subst AEQ
      have hyes : (isE a p X && X.f1 == o) = true := by rw [← hX]; exact HX.out.2.1.2
      have hq : (X.f0.f0 == a && (X.f0.f1 == p)) = true := by unfold isE at hyes; exact (Bool.and_eq_true _ _ ▸ hyes).1
      have hq2 : (X.f1 == o) = true := (Bool.and_eq_true _ _ ▸ hyes).2
      have hC1 : Kd.C k175 wr (some ad) k (l.take k) := by
        have := Kd.C_take (k := k175) (xs := l) (m := k) (by rw [hnn.1]; exact HF.out.rw.C) (by have := hnn.1; omega)
        rw [List.length_take, hnn.1, Nat.min_eq_left (by omega)] at this
        exact this
      have hC2 : Kd.C k175 wr (if c = k + 1 then some ad else (some ad : Option Addr).map (·.add ((k + 1) * 3))) (n - (k + 1)) (l.drop (k + 1)) := by
        have := Kd.C_drop (k := k175) (xs := l) (m := k + 1) (c := c) (by rw [hnn.1]; exact HF.out.rw.C) (by have := hnn.1; omega) (by rw [hnn.1]; exact hnn.2.2)
        rw [List.length_drop, hnn.1] at this
        exact this
      generalize (if c = k + 1 then some ad else (some ad : Option Addr).map (·.add ((k + 1) * 3))) = A2 at hcut2 hC2
      have HC := Aside0.mk (And.intro hC1 hC2)
      clear hk hF hkn hnn hkl hX hyes hlt hC1 hC2 hk0'
      go_upto_region 4 with (fail)
      refine start_ (n := 18) (S := fun w' => (w'.heap[g]? = some (.cells #[.int .i64 lo, .int .i64 hi, .int .i64 la, .slice (some ad) n c, .slice A' n' c'] 100 (0, 0)) ∧ w'.heap[ge]? = some (.cells #[.int .u32 a, .int .u16 p] 105 (0, 0))) ∧ w'.cell? (ad.add (k * 3)) = some (.int .u32 X.f0.f0) ∧ w'.cell? ⟨(ad.add (k * 3)).block, (ad.add (k * 3)).off + 1, none⟩ = some (.int .u16 X.f0.f1) ∧ w'.cell? ⟨(ad.add (k * 3)).block, (ad.add (k * 3)).off + 2, none⟩ = some (.int .i64 X.f1)) (ds := []) (bb 18 0) (by kernel_rfl) rfl rfl (⟨⟨HF.out.p1, HF.out.pe⟩, y0, y1, y2⟩) (fun hHeld => ?_)
      replace HF := Aside0.mk (HF.out.below (below_drew (Below.refl _ _)))
      clear y0 y1 y2 p0 p1 p2 p3 p4
      replace HC := Aside0.mk (And.intro (Kd.C_drew HC.out.1) (Kd.C_drew HC.out.2))
      generalize World.drew _ = w5 at HF HC hHeld ⊢
      refine pure_ (i := 0) (N := some 16) (v := ?_) (a' := ?_) (bb 18 1) rfl rfl (by kernel_rfl) (fun _ _ _ h => h) (Or.inl ⟨by rfl, ?_⟩) ?_ ?_
      rotate_left
      · intro w'
        go_simp
        with_reducible rfl
      rotate_left
      · simp only [Act.put, List.setIfInBounds_toArray, List.set_cons_zero, List.set_cons_succ, i64_w, i32_w]
        rfl
      refine take_ (i := 1) (N := some 17) (v := ?_) (a' := ?_) (bb 18 3) rfl rfl (by kernel_rfl) (fun _ _ _ h => h) (Or.inl ⟨by rfl, ?_⟩) hHeld ?_ ?_
      rotate_left
      · intro w' hSw
        obtain ⟨p0, p1, p2, p3, p4, -⟩ := five hSw.1.1
        have e0 := (blk_cell hSw.1.2 0).trans rfl
        have e1 := (blk_cell hSw.1.2 1).trans rfl
        obtain ⟨y0, y1, y2⟩ := hSw.2
        go_simp
        with_reducible rfl
      rotate_left
      · simp only [Act.put, List.setIfInBounds_toArray, List.set_cons_zero, List.set_cons_succ, i64_w, i32_w]
        rfl
      refine pure_ (i := 2) (N := some 18) (v := ?_) (a' := ?_) (bb 18 7) rfl rfl (by kernel_rfl) (fun _ _ _ h => h) (Or.inl ⟨by rfl, ?_⟩) ?_ ?_
      rotate_left
      · intro w'
        go_simp
        with_reducible rfl
      rotate_left
      · simp only [Act.put, List.setIfInBounds_toArray, List.set_cons_zero, List.set_cons_succ, i64_w, i32_w]
        rfl
      refine pure_ (i := 3) (N := some 19) (v := ?_) (a' := ?_) (bb 18 15) rfl rfl (by kernel_rfl) (fun _ _ _ h => h) (Or.inl ⟨by rfl, ?_⟩) ?_ ?_
      rotate_left
      · intro w'
        go_simp
        with_reducible rfl
      rotate_left
      · simp only [Act.put, List.setIfInBounds_toArray, List.set_cons_zero, List.set_cons_succ, i64_w, i32_w]
        rfl
      refine pure_ (i := 4) (N := some 20) (v := ?_) (a' := ?_) (bb 18 31) rfl rfl (by kernel_rfl) (fun _ _ _ h => h) (Or.inl ⟨by rfl, ?_⟩) ?_ ?_
      rotate_left
      · intro w'
        go_simp
        with_reducible rfl
      rotate_left
      · simp only [Act.put, List.setIfInBounds_toArray, List.set_cons_zero, List.set_cons_succ, i64_w, i32_w]
        rfl
      refine take_ (i := 5) (N := some 21) (v := ?_) (a' := ?_) (bb 18 63) rfl rfl (by kernel_rfl) (fun _ _ _ h => h) (Or.inl ⟨by rfl, ?_⟩) hHeld ?_ ?_
      rotate_left
      · intro w' hSw
        obtain ⟨p0, p1, p2, p3, p4, -⟩ := five hSw.1.1
        have e0 := (blk_cell hSw.1.2 0).trans rfl
        have e1 := (blk_cell hSw.1.2 1).trans rfl
        obtain ⟨y0, y1, y2⟩ := hSw.2
        go_simp
        with_reducible rfl
      rotate_left
      · simp only [Act.put, List.setIfInBounds_toArray, List.set_cons_zero, List.set_cons_succ, i64_w, i32_w]
        rfl
      refine take_ (i := 6) (N := some 22) (v := ?_) (a' := ?_) (bb 18 127) rfl rfl (by kernel_rfl) (fun _ _ _ h => h) (Or.inl ⟨by rfl, ?_⟩) hHeld ?_ ?_
      rotate_left
      · intro w' hSw
        obtain ⟨p0, p1, p2, p3, p4, -⟩ := five hSw.1.1
        have e0 := (blk_cell hSw.1.2 0).trans rfl
        have e1 := (blk_cell hSw.1.2 1).trans rfl
        obtain ⟨y0, y1, y2⟩ := hSw.2
        go_simp
        with_reducible rfl
      rotate_left
      · simp only [Act.put, List.setIfInBounds_toArray, List.set_cons_zero, List.set_cons_succ, i64_w, i32_w]
        rfl
      refine pure_ (i := 7) (N := some 23) (v := ?_) (a' := ?_) (bb 18 255) rfl rfl (by kernel_rfl) (fun _ _ _ h => h) (Or.inl ⟨by rfl, ?_⟩) ?_ ?_
      rotate_left
      · intro w'
        go_simp
        with_reducible rfl
      rotate_left
      · simp only [Act.put, List.setIfInBounds_toArray, List.set_cons_zero, List.set_cons_succ, i64_w, i32_w]
        rfl
      refine pure_ (i := 8) (N := some 24) (v := ?_) (a' := ?_) (bb 18 511) rfl rfl (by kernel_rfl) (fun _ _ _ h => h) (Or.inl ⟨by rfl, ?_⟩) ?_ ?_
      rotate_left
      · intro w'
        go_simp
        with_reducible rfl
      rotate_left
      · simp only [Act.put, List.setIfInBounds_toArray, List.set_cons_zero, List.set_cons_succ, i64_w, i32_w]
        rfl
      refine pure_ (i := 9) (N := some 25) (v := ?_) (a' := ?_) (bb 18 1023) rfl rfl (by kernel_rfl) (fun _ _ _ h => h) (Or.inl ⟨by rfl, ?_⟩) ?_ ?_
      rotate_left
      · intro w'
        go_simp
        with_reducible rfl
      rotate_left
      · simp only [Act.put, List.setIfInBounds_toArray, List.set_cons_zero, List.set_cons_succ, i64_w, i32_w]
        rfl
      refine take_ (i := 10) (N := some 26) (v := ?_) (a' := ?_) (bb 18 2047) rfl rfl (by kernel_rfl) (fun _ _ _ h => h) (Or.inl ⟨by rfl, ?_⟩) hHeld ?_ ?_
      rotate_left
      · intro w' hSw
        obtain ⟨p0, p1, p2, p3, p4, -⟩ := five hSw.1.1
        have e0 := (blk_cell hSw.1.2 0).trans rfl
        have e1 := (blk_cell hSw.1.2 1).trans rfl
        obtain ⟨y0, y1, y2⟩ := hSw.2
        go_simp
        with_reducible rfl
      rotate_left
      · simp only [Act.put, List.setIfInBounds_toArray, List.set_cons_zero, List.set_cons_succ, i64_w, i32_w]
        rfl
      refine pure_ (i := 11) (N := some 27) (v := ?_) (a' := ?_) (bb 18 4095) rfl rfl (by kernel_rfl) (fun _ _ _ h => h) (Or.inl ⟨by rfl, ?_⟩) ?_ ?_
      rotate_left
      · intro w'
        go_simp
        with_reducible rfl
      rotate_left
      · simp only [Act.put, List.setIfInBounds_toArray, List.set_cons_zero, List.set_cons_succ, i64_w, i32_w]
        rfl
      refine pure_ (i := 12) (N := some 28) (v := ?_) (a' := ?_) (bb 18 8191) rfl rfl (by kernel_rfl) (fun _ _ _ h => h) (Or.inl ⟨by rfl, ?_⟩) ?_ ?_
      rotate_left
      · intro w'
        go_simp
        with_reducible rfl
      rotate_left
      · simp only [Act.put, List.setIfInBounds_toArray, List.set_cons_zero, List.set_cons_succ, i64_w, i32_w]
        rfl
      refine pure_ (i := 13) (N := some 29) (v := ?_) (a' := ?_) (bb 18 16383) rfl rfl (by kernel_rfl) (fun _ _ _ h => h) (Or.inl ⟨by rfl, ?_⟩) ?_ ?_
      rotate_left
      · intro w'
        go_simp
        with_reducible rfl
      rotate_left
      · simp only [Act.put, List.setIfInBounds_toArray, List.set_cons_zero, List.set_cons_succ, i64_w, i32_w]
        rfl
      refine take_ (i := 14) (N := some 30) (v := ?_) (a' := ?_) (bb 18 32767) rfl rfl (by kernel_rfl) (fun _ _ _ h => h) (Or.inl ⟨by rfl, ?_⟩) hHeld ?_ ?_
      rotate_left
      · intro w' hSw
        obtain ⟨p0, p1, p2, p3, p4, -⟩ := five hSw.1.1
        have e0 := (blk_cell hSw.1.2 0).trans rfl
        have e1 := (blk_cell hSw.1.2 1).trans rfl
        obtain ⟨y0, y1, y2⟩ := hSw.2
        go_simp
        with_reducible rfl
      rotate_left
      · simp only [Act.put, List.setIfInBounds_toArray, List.set_cons_zero, List.set_cons_succ, i64_w, i32_w]
        rfl
      refine pure_ (i := 15) (N := some 31) (v := ?_) (a' := ?_) (bb 18 65535) rfl rfl (by kernel_rfl) (fun _ _ _ h => h) (Or.inl ⟨by rfl, ?_⟩) ?_ ?_
      rotate_left
      · intro w'
        go_simp
        with_reducible rfl
      rotate_left
      · simp only [Act.put, List.setIfInBounds_toArray, List.set_cons_zero, List.set_cons_succ, i64_w, i32_w]
        rfl
      refine pure_ (i := 16) (N := some 32) (v := ?_) (a' := ?_) (bb 18 131071) rfl rfl (by kernel_rfl) (fun _ _ _ h => h) (Or.inl ⟨by rfl, ?_⟩) ?_ ?_
      rotate_left
      · intro w'
        go_simp
        with_reducible rfl
      rotate_left
      · simp only [Act.put, List.setIfInBounds_toArray, List.set_cons_zero, List.set_cons_succ, i64_w, i32_w]
        rfl
      refine pure_ (i := 17) (N := some 33) (v := ?_) (a' := ?_) (bb 18 262143) rfl rfl (by kernel_rfl) (fun _ _ _ h => h) (Or.inl ⟨by rfl, ?_⟩) ?_ ?_
      rotate_left
      · intro w'
        go_simp
        with_reducible rfl
      rotate_left
      · simp only [Act.put, List.setIfInBounds_toArray, List.set_cons_zero, List.set_cons_succ, i64_w, i32_w]
        rfl
      refine done_ (by kernel_rfl) ?_
      clear hHeld
      go_upto_region 5 with (fail)
      refine start_ (n := 14) (S := fun w' => w'.heap[g]? = some (.cells #[.int .i64 lo, .int .i64 hi, .int .i64 la, .slice (some ad) n c, .slice A' n' c'] 100 (0, 0))) (ds := [13]) (bb 14 0) (by kernel_rfl) rfl rfl (HF.out.p1) (fun hHeld => ?_)
      replace HF := Aside0.mk (HF.out.below (below_drew (Below.refl _ _)))
      replace HC := Aside0.mk (And.intro (Kd.C_drew HC.out.1) (Kd.C_drew HC.out.2))
      generalize World.drew _ = w6 at HF HC hHeld ⊢
      have HBr := Aside0.mk (Below.refl w6.heap.size w6)
      refine pure_ (i := 1) (N := some 35) (v := ?_) (a' := ?_) (bb 14 2) rfl rfl (by kernel_rfl) (fun _ _ _ h => h) (Or.inl ⟨by rfl, ?_⟩) ?_ ?_
      rotate_left
      · intro w'
        go_simp
        with_reducible rfl
      rotate_left
      · simp only [Act.put, List.setIfInBounds_toArray, List.set_cons_zero, List.set_cons_succ, i64_w, i32_w]
        rfl
      refine take_ (i := 2) (N := some 36) (v := ?_) (a' := ?_) (bb 14 6) rfl rfl (by kernel_rfl) (fun _ _ _ h => h) (Or.inl ⟨by rfl, ?_⟩) hHeld ?_ ?_
      rotate_left
      · intro w' hSw
        obtain ⟨p0, p1, p2, p3, p4, -⟩ := five hSw
        go_simp
        with_reducible rfl
      rotate_left
      · simp only [Act.put, List.setIfInBounds_toArray, List.set_cons_zero, List.set_cons_succ, i64_w, i32_w]
        rfl
      refine pure_ (i := 3) (N := some 37) (v := ?_) (a' := ?_) (bb 14 14) rfl rfl (by kernel_rfl) (fun _ _ _ h => h) (Or.inl ⟨by rfl, ?_⟩) ?_ ?_
      rotate_left
      · intro w'
        go_simp
        with_reducible rfl
      rotate_left
      · simp only [Act.put, List.setIfInBounds_toArray, List.set_cons_zero, List.set_cons_succ, i64_w, i32_w]
        rfl
      refine pure_ (i := 4) (N := some 38) (v := ?_) (a' := ?_) (bb 14 30) rfl rfl (by kernel_rfl) (fun _ _ _ h => h) (Or.inl ⟨by rfl, ?_⟩) ?_ ?_
      rotate_left
      · intro w'
        go_simp
        with_reducible rfl
      rotate_left
      · simp only [Act.put, List.setIfInBounds_toArray, List.set_cons_zero, List.set_cons_succ, i64_w, i32_w]
        rfl
      refine pure_ (i := 6) (N := some 40) (v := ?_) (a' := ?_) (bb 14 94) rfl rfl (by kernel_rfl) (fun _ _ _ h => h) (Or.inl ⟨by rfl, ?_⟩) ?_ ?_
      rotate_left
      · intro w'
        go_simp
        with_reducible rfl
      rotate_left
      · simp only [Act.put, List.setIfInBounds_toArray, List.set_cons_zero, List.set_cons_succ, i64_w, i32_w]
        rfl
      refine take_ (i := 7) (N := some 41) (v := ?_) (a' := ?_) (bb 14 222) rfl rfl (by kernel_rfl) (fun _ _ _ h => h) (Or.inl ⟨by rfl, ?_⟩) hHeld ?_ ?_
      rotate_left
      · intro w' hSw
        obtain ⟨p0, p1, p2, p3, p4, -⟩ := five hSw
        go_simp
        with_reducible rfl
      rotate_left
      · simp only [Act.put, List.setIfInBounds_toArray, List.set_cons_zero, List.set_cons_succ, i64_w, i32_w]
        rfl
      refine pure_ (i := 8) (N := some 42) (v := ?_) (a' := ?_) (bb 14 478) rfl rfl (by kernel_rfl) (fun _ _ _ h => h) (Or.inl ⟨by rfl, ?_⟩) ?_ ?_
      rotate_left
      · intro w'
        go_simp
        with_reducible rfl
      rotate_left
      · simp only [Act.put, List.setIfInBounds_toArray, List.set_cons_zero, List.set_cons_succ, i64_w, i32_w]
        rfl
      refine pure_ (i := 9) (N := some 43) (v := ?_) (a' := ?_) (bb 14 990) rfl rfl (by kernel_rfl) (fun _ _ _ h => h) (Or.inl ⟨by rfl, ?_⟩) ?_ ?_
      rotate_left
      · intro w'
        go_simp
        with_reducible rfl
      rotate_left
      · simp only [Act.put, List.setIfInBounds_toArray, List.set_cons_zero, List.set_cons_succ, i64_w, i32_w]
        rfl
      refine pure_ (i := 10) (N := some 44) (v := ?_) (a' := ?_) (bb 14 2014) rfl rfl (by kernel_rfl) (fun _ _ _ h => h) (Or.inl ⟨by rfl, ?_⟩) ?_ ?_
      rotate_left
      · intro w'
        go_simp
        with_reducible rfl
      rotate_left
      · simp only [Act.put, List.setIfInBounds_toArray, List.set_cons_zero, List.set_cons_succ, i64_w, i32_w]
        rfl
      refine one_ (i := 0) (N := some 34) (bb 14 2015) rfl rfl (by kernel_rfl) (by decide) (fun K hK => ?_)
      refine Kd.R_lit_step k175 (w0 := w6) w6.heap.size 175 (by rfl) rfl (xs := []) (inner := []) (ok := fun _ => True) (okp := fun _ => True) (by first | (go_simp; done) | (go_simp; rfl)) (Reps.none _ _) (fun _ h => h) trivial HBr.out HBr.out.size (by decide) ?_
      intro v1 w7 hR hB _ _
      have HR := Aside0.mk hR
      replace HBr := Aside0.mk hB
      clear hR hB
      refine hK.out _ _ (blk_below HF.out.p1 HBr.out) (fun hHeld => ?_)
      clear hK K
      refine norm_ (a' := ?_) ?_ ?_
      rotate_left
      · show Act.put _ (some 34) _ = _
        simp only [Act.put, List.setIfInBounds_toArray, List.set_cons_zero, List.set_cons_succ, i64_w, i32_w]
        rfl
      refine one_ (i := 5) (N := some 39) (bb 14 2047) rfl rfl (by kernel_rfl) (by decide) (fun K hK => ?_)
      refine Kd.R_append_rows_step k175 (Rr := k175.K w7) (w0 := w6) w6.heap.size (by rfl) (.tmp 34) (.tmp 38) 97 175 (.agg #[.int .u32 0, .int .u16 0, .int .i64 0]) 16 rfl Try.underlying97 info175 rfl (by decide) (by decide) v1 ([]) (l.take k) (some ad) k c (fun _ => True) (fun _ => False) rfl rfl HR.out (Kd.C_below HC.out.1 HBr.out) (fun x_ cs_ h_ => h_) (fun _ h => h.elim) (fun _ _ => trivial) HBr.out HBr.out.size (by have := HN.out; have := HX.out.1; simp only [List.length_nil]; omega) ?_
      intro v2 w8 hR hB _ _
      replace HR := Aside0.mk hR
      replace HBr := Aside0.mk hB
      clear hR hB
      refine hK.out _ _ (blk_below HF.out.p1 HBr.out) (fun hHeld => ?_)
      clear hK K
      refine norm_ (a' := ?_) ?_ ?_
      rotate_left
      · show Act.put _ (some 39) _ = _
        simp only [Act.put, List.setIfInBounds_toArray, List.set_cons_zero, List.set_cons_succ, i64_w, i32_w]
        rfl
      refine one_ (i := 11) (N := some 45) (bb 14 4095) rfl rfl (by kernel_rfl) (by decide) (fun K hK => ?_)
      refine Kd.R_append_rows_step k175 (Rr := k175.K w8) (w0 := w6) w6.heap.size (by rfl) (.tmp 39) (.tmp 44) 97 175 (.agg #[.int .u32 0, .int .u16 0, .int .i64 0]) 16 rfl Try.underlying97 info175 rfl (by decide) (by decide) v2 ([] ++ l.take k) (l.drop (k + 1)) A2 (n - (k + 1)) (c - (k + 1)) (fun _ => True) (fun _ => False) rfl rfl HR.out (Kd.C_below HC.out.2 HBr.out) (fun x_ cs_ h_ => h_) (fun _ h => h.elim) (fun _ _ => trivial) HBr.out HBr.out.size (by have := HN.out; have := HX.out.1; simp only [List.nil_append, List.length_take]; omega) ?_
      intro v3 w9 hR hB _ _
      rw [HQ.out.2] at hR
      obtain ⟨A3, c3, rfl⟩ := Kd.R_slice hR
      rw [HQ.out.1] at hR ⊢
      replace HR := Aside0.mk hR
      replace HBr := Aside0.mk hB
      have f6 := blk_frozen (blk_below HF.out.p1 hB) 3
      have g6 := (blk_cell (blk_below HF.out.p1 hB) 3).trans rfl
      clear hR hB
      refine hK.out _ _ (blk_below HF.out.p1 HBr.out) (fun hHeld => ?_)
      clear hK K
      refine norm_ (a' := ?_) ?_ ?_
      rotate_left
      · show Act.put _ (some 45) _ = _
        simp only [Act.put, List.setIfInBounds_toArray, List.set_cons_zero, List.set_cons_succ, i64_w, i32_w]
        rfl
      refine pure_ (i := 12) (N := some 46) (v := ?_) (a' := ?_) (bb 14 8191) rfl rfl (by kernel_rfl) (fun _ _ _ h => h) (Or.inl ⟨by rfl, ?_⟩) ?_ ?_
      rotate_left
      · intro w'
        go_simp
        with_reducible rfl
      rotate_left
      · simp only [Act.put, List.setIfInBounds_toArray, List.set_cons_zero, List.set_cons_succ, i64_w, i32_w]
        rfl
      refine last_ (i := 13) (N := none) (bb 14 16383) rfl rfl (by kernel_rfl) (by decide) (fun K hK => ?_)
      refine skip_ (w1 := w9.setCell ⟨g, 3, none⟩ (.slice A3 (n - 1) c3)) (by rfl) rfl (by first | (go_simp; done) | (go_simp; rfl)) ?_
      refine hK.out _ _ ?_
      clear hK K
      refine done_ (by kernel_rfl) ?_
      replace HR := Aside0.mk (Kd.R_set HR.out (blk_below HF.out.p1 HBr.out) e175 3 (.slice A3 (n - 1) c3))
      have HP2 := Aside0.mk (blk_far (blk_below HF.out.p2 HBr.out) (p := ⟨g, 3, none⟩) HG.out.2.2.1 (.slice A3 (n - 1) c3))
      have HP3 := Aside0.mk (blk_put (blk_below HF.out.p1 HBr.out) 3 (.slice A3 (n - 1) c3) rfl)
      have hle3 := HF.out.bl.size
      have HB := Aside0.mk (bput (i := 3) (u := .slice A3 (n - 1) c3) (below_step HF.out.bl HBr.out) HG.out.1)
      have HL3 := Aside0.mk hle3
      clear f6 g6 hHeld hle3
      generalize w9.setCell ⟨g, 3, none⟩ (.slice A3 (n - 1) c3) = w10 at HR HP2 HP3 HB ⊢
      obtain ⟨p0, p1, p2, p3, p4, -⟩ := five HP3.out
      obtain ⟨r0, r1, r2, r3, r4, u0, u1, u2, u3, u4⟩ := five HP2.out
      go_wp2
      refine bodyPost_ret (results_ct rfl _ _ k1 100 #[.int .i64 lo, .int .i64 hi, .int .i64 la, .slice A3 (n - 1) c3, .slice A' n' c'] (0, 0) _ rfl (five_put HP2.out _ _ _ _ _) Try.underlying100 rfl (by kernel_rfl)) rfl ?_
      exact ⟨A3, c3, rfl, Kd.R_lower (R_five HR.out e175 HP2.out _ _ _ _ _) HL3.out, five_b HB.out HG.out.2.1 _ _ _ _ _⟩
set_option maxRecDepth 100000 in
set_option maxHeartbeats 16000000 in
theorem rpart_none (lo hi la : Int) {A : Option Addr} {n c : Nat} {l : List S175} {A' : Option Addr} {n' c' : Nat} {l' : List S177} {w : World} (h : Rw w A n c l A' n' c' l') (a p d1 d2 : Int) (hn : ∀ j (h : j < l'.length), isQ a p d1 d2 l'[j] = false) :
    Calls Try.prog 88 #[rt lo hi la A n c A' n' c', .agg #[.int .u32 a, .int .u16 p, .int .u32 d1, .int .u16 d2]] w fun e w' => e = .returned (.tuple #[rt lo hi la A n c A' n' c', .int .i64 6]) ∧ Below w.heap.size w w' := by
  have hlen := h.len'; have hfew := h.few'; have hcap := h.cap'
  have HX := Aside0.mk hn
  clear hn
  have HN := Aside0.mk (And.intro hlen (And.intro hfew hcap))
  clear hlen hfew hcap
  have H := Aside0.mk h
  unfold rt
  clear h
  go_enter Try.func88, Try.ntmps88
  go_upto_region 1 with (fail)
  obtain ⟨hb1, hbe, hb2, hB⟩ := boxed3 w (.cells #[.int .i64 lo, .int .i64 hi, .int .i64 la, .slice A n c, .slice A' n' c'] 100) (.cells #[.int .u32 a, .int .u16 p, .int .u32 d1, .int .u16 d2] 107) (.cells #[.int .i64 0, .int .i64 0, .int .i64 0, .slice none 0 0, .slice none 0 0] 100)
  generalize ((w.alloc (.cells #[.int .i64 lo, .int .i64 hi, .int .i64 la, .slice A n c, .slice A' n' c'] 100)).alloc (.cells #[.int .u32 a, .int .u16 p, .int .u32 d1, .int .u16 d2] 107)).alloc (.cells #[.int .i64 0, .int .i64 0, .int .i64 0, .slice none 0 0, .slice none 0 0] 100) = w1 at hb1 hbe hb2 hB ⊢
  have HB := Aside0.mk hB
  have H1 := Aside0.mk (H.out.below hB)
  obtain ⟨k1, hk1⟩ : ∃ k1, k1 = w.heap.size + 1 + 1 := ⟨_, rfl⟩
  obtain ⟨ge, hge⟩ : ∃ ge, ge = w.heap.size + 1 := ⟨_, rfl⟩
  rw [← hk1] at hb2 ⊢
  rw [← hge] at hbe ⊢
  obtain ⟨g, hg⟩ : ∃ g, w.heap.size = g := ⟨_, rfl⟩
  rw [hg] at hb1 ⊢
  have HG := Aside0.mk (show w.heap.size ≤ g ∧ w.heap.size ≤ k1 ∧ k1 ≠ g ∧ g ≠ k1 ∧ ge ≠ g ∧ ge ≠ k1 by omega)
  have HP1 := Aside0.mk hb1
  have HPE := Aside0.mk hbe
  have HP2 := Aside0.mk hb2
  clear hB hb1 hbe hb2 hg hk1 hge
  obtain ⟨p0, p1, p2, p3, p4, s0, s1, s2, s3, s4⟩ := five HP1.out
  obtain ⟨r0, r1, r2, r3, r4, u0, u1, u2, u3, u4⟩ := five HP2.out
  have e0 := (blk_cell HPE.out 0).trans rfl
  have e1 := (blk_cell HPE.out 1).trans rfl
  have e2 := (blk_cell HPE.out 2).trans rfl
  have e3 := (blk_cell HPE.out 3).trans rfl
  have gl0 := blk_lt HP1.out
  have gl2 := blk_lt HP2.out
  have gle := blk_lt HPE.out
  go_wp2
  have HH : Aside0 (0 ≤ n' ∧ Fr w w1 g ge k1 #[.int .i64 lo, .int .i64 hi, .int .i64 la, .slice A n c, .slice A' n' c'] #[.int .u32 a, .int .u16 p, .int .u32 d1, .int .u16 d2] #[.int .i64 0, .int .i64 0, .int .i64 0, .slice none 0 0, .slice none 0 0] 107 A n c l A' n' c' l' ∧ 0 ≤ n') := ⟨Nat.zero_le _, ⟨HP1.out, HPE.out, HP2.out, H1.out, HB.out⟩, Nat.zero_le _⟩
  clear HP1 HPE HP2 H1 HB
  clear p0 p1 p2 p3 p4 s0 s1 s2 s3 s4 r0 r1 r2 r3 r4 u0 u1 u2 u3 u4 gl0 gl2 gle e0 e1 e2 e3
  go_loopw [6] (fun i wr => ∃ k : Nat, i = .int .i64 k ∧ Aside0 (k ≤ n' ∧ Fr w wr g ge k1 #[.int .i64 lo, .int .i64 hi, .int .i64 la, .slice A n c, .slice A' n' c'] #[.int .u32 a, .int .u16 p, .int .u32 d1, .int .u16 d2] #[.int .i64 0, .int .i64 0, .int .i64 0, .slice none 0 0, .slice none 0 0] 107 A n c l A' n' c' l' ∧ k ≤ n')) (fun i _ => n' - num i)
  case atStart => exact ⟨0, rfl, HH⟩
  case round =>
    clear HH
    obtain ⟨k, rfl, ⟨hk, hF, hkn⟩⟩ := hrel
    have HF := Aside0.mk hF
    obtain ⟨p0, p1, p2, p3, p4, -⟩ := five HF.out.p1
    have hnn := HN.out
    have e1 : IntKind.i64.wrap ((k : Int) + 1) = (k : Int) + 1 := wid _ (by omega) (by omega)
    have i1 : (0 : Int) ≤ (k : Int) := by omega
    have i2 : (0 : Int) ≤ (k : Int) + 1 := by omega
    by_cases hlt : k < n'
    · obtain ⟨ad, AEQ, y0, y1, y2, y3, y4⟩ := at_T177 HF.out.rw.C' (k : Int) (by omega) (by omega)
      rw [Int.toNat_natCast, rd177 (by omega)] at y0 y1 y2 y3 y4
      have hkl : k < l'.length := by omega
      obtain ⟨X, hX⟩ : ∃ X, l'[k] = X := ⟨_, rfl⟩
      rw [hX] at y0 y1 y2 y3 y4
      have c0 : decide ((k : Int) < (n' : Int)) = true := decide_eq_true (by omega)
      have c1_ : decide (k < n') = true := decide_eq_true (by omega)
      have c2_ : (k < n') = True := eq_true (by omega)
      have c3_ : ((k : Int) < (n' : Int)) = True := eq_true (by omega)
      subst AEQ
      have HZ := Aside0.mk (And.intro (show k + 1 ≤ n' by omega) (show k + 1 ≤ n' by omega))
      have hno : isQ a p d1 d2 X = false := by rw [← hX]; exact HX.out k hkl
      have hq : ((X.f0.f0.f0 == a && (X.f0.f0.f1 == p)) && ((X.f0.f1.f0 == d1 && (X.f0.f1.f1 == d2)))) = false := hno
      clear hk hF hkn hnn hkl hX hno
      go_upto_region 4 with (fail)
      refine start_ (n := 8) (S := fun w' => (w'.heap[g]? = some (.cells #[.int .i64 lo, .int .i64 hi, .int .i64 la, .slice A n c, .slice (some ad) n' c'] 100 (0, 0)) ∧ w'.heap[ge]? = some (.cells #[.int .u32 a, .int .u16 p, .int .u32 d1, .int .u16 d2] 107 (0, 0))) ∧ w'.cell? (ad.add (k * 5)) = some (.int .u32 X.f0.f0.f0) ∧ w'.cell? ⟨(ad.add (k * 5)).block, (ad.add (k * 5)).off + 1, none⟩ = some (.int .u16 X.f0.f0.f1) ∧ w'.cell? ⟨(ad.add (k * 5)).block, (ad.add (k * 5)).off + 2, none⟩ = some (.int .u32 X.f0.f1.f0) ∧ w'.cell? ⟨(ad.add (k * 5)).block, (ad.add (k * 5)).off + 3, none⟩ = some (.int .u16 X.f0.f1.f1) ∧ w'.cell? ⟨(ad.add (k * 5)).block, (ad.add (k * 5)).off + 4, none⟩ = some (.int .i64 X.f1)) (ds := []) (bb 8 0) (by kernel_rfl) rfl rfl (⟨⟨HF.out.p1, HF.out.pe⟩, y0, y1, y2, y3, y4⟩) (fun hHeld => ?_)
      replace HF := Aside0.mk (HF.out.below (below_drew (Below.refl _ _)))
      clear y0 y1 y2 y3 y4 p0 p1 p2 p3 p4
      generalize World.drew _ = w5 at HF hHeld ⊢
      refine pure_ (i := 0) (N := some 14) (v := ?_) (a' := ?_) (bb 8 1) rfl rfl (by kernel_rfl) (fun _ _ _ h => h) (Or.inl ⟨by rfl, ?_⟩) ?_ ?_
      rotate_left
      · intro w'
        go_simp
        with_reducible rfl
      rotate_left
      · simp only [Act.put, List.setIfInBounds_toArray, List.set_cons_zero, List.set_cons_succ, i64_w, i32_w]
        rfl
      refine take_ (i := 1) (N := some 15) (v := ?_) (a' := ?_) (bb 8 3) rfl rfl (by kernel_rfl) (fun _ _ _ h => h) (Or.inl ⟨by rfl, ?_⟩) hHeld ?_ ?_
      rotate_left
      · intro w' hSw
        obtain ⟨p0, p1, p2, p3, p4, -⟩ := five hSw.1.1
        have e0 := (blk_cell hSw.1.2 0).trans rfl
        have e1 := (blk_cell hSw.1.2 1).trans rfl
        have e2 := (blk_cell hSw.1.2 2).trans rfl
        have e3 := (blk_cell hSw.1.2 3).trans rfl
        obtain ⟨y0, y1, y2, y3, y4⟩ := hSw.2
        go_simp
        with_reducible rfl
      rotate_left
      · simp only [Act.put, List.setIfInBounds_toArray, List.set_cons_zero, List.set_cons_succ, i64_w, i32_w]
        rfl
      refine pure_ (i := 2) (N := some 16) (v := ?_) (a' := ?_) (bb 8 7) rfl rfl (by kernel_rfl) (fun _ _ _ h => h) (Or.inl ⟨by rfl, ?_⟩) ?_ ?_
      rotate_left
      · intro w'
        go_simp
        with_reducible rfl
      rotate_left
      · simp only [Act.put, List.setIfInBounds_toArray, List.set_cons_zero, List.set_cons_succ, i64_w, i32_w]
        rfl
      refine pure_ (i := 3) (N := some 17) (v := ?_) (a' := ?_) (bb 8 15) rfl rfl (by kernel_rfl) (fun _ _ _ h => h) (Or.inl ⟨by rfl, ?_⟩) ?_ ?_
      rotate_left
      · intro w'
        go_simp
        with_reducible rfl
      rotate_left
      · simp only [Act.put, List.setIfInBounds_toArray, List.set_cons_zero, List.set_cons_succ, i64_w, i32_w]
        rfl
      refine pure_ (i := 4) (N := some 18) (v := ?_) (a' := ?_) (bb 8 31) rfl rfl (by kernel_rfl) (fun _ _ _ h => h) (Or.inl ⟨by rfl, ?_⟩) ?_ ?_
      rotate_left
      · intro w'
        go_simp
        with_reducible rfl
      rotate_left
      · simp only [Act.put, List.setIfInBounds_toArray, List.set_cons_zero, List.set_cons_succ, i64_w, i32_w]
        rfl
      refine take_ (i := 5) (N := some 19) (v := ?_) (a' := ?_) (bb 8 63) rfl rfl (by kernel_rfl) (fun _ _ _ h => h) (Or.inl ⟨by rfl, ?_⟩) hHeld ?_ ?_
      rotate_left
      · intro w' hSw
        obtain ⟨p0, p1, p2, p3, p4, -⟩ := five hSw.1.1
        have e0 := (blk_cell hSw.1.2 0).trans rfl
        have e1 := (blk_cell hSw.1.2 1).trans rfl
        have e2 := (blk_cell hSw.1.2 2).trans rfl
        have e3 := (blk_cell hSw.1.2 3).trans rfl
        obtain ⟨y0, y1, y2, y3, y4⟩ := hSw.2
        go_simp
        with_reducible rfl
      rotate_left
      · simp only [Act.put, List.setIfInBounds_toArray, List.set_cons_zero, List.set_cons_succ, i64_w, i32_w]
        rfl
      refine take_ (i := 6) (N := some 20) (v := ?_) (a' := ?_) (bb 8 127) rfl rfl (by kernel_rfl) (fun _ _ _ h => h) (Or.inl ⟨by rfl, ?_⟩) hHeld ?_ ?_
      rotate_left
      · intro w' hSw
        obtain ⟨p0, p1, p2, p3, p4, -⟩ := five hSw.1.1
        have e0 := (blk_cell hSw.1.2 0).trans rfl
        have e1 := (blk_cell hSw.1.2 1).trans rfl
        have e2 := (blk_cell hSw.1.2 2).trans rfl
        have e3 := (blk_cell hSw.1.2 3).trans rfl
        obtain ⟨y0, y1, y2, y3, y4⟩ := hSw.2
        go_simp
        with_reducible rfl
      rotate_left
      · simp only [Act.put, List.setIfInBounds_toArray, List.set_cons_zero, List.set_cons_succ, i64_w, i32_w]
        rfl
      refine pure_ (i := 7) (N := some 21) (v := ?_) (a' := ?_) (bb 8 255) rfl rfl (by kernel_rfl) (fun _ _ _ h => h) (Or.inl ⟨by rfl, ?_⟩) ?_ ?_
      rotate_left
      · intro w'
        go_simp
        with_reducible rfl
      rotate_left
      · simp only [Act.put, List.setIfInBounds_toArray, List.set_cons_zero, List.set_cons_succ, i64_w, i32_w]
        rfl
      refine done_ (by kernel_rfl) ?_
      clear hHeld
      go_wp2
      go_roundw
      case rel => exact ⟨k + 1, by go_num, ⟨HZ.out.1, HF.out, HZ.out.2⟩⟩
      case measure => simp only [num]; have := HZ.out.2; omega
    · have c0 : decide ((k : Int) < (n' : Int)) = false := decide_eq_false (by omega)
      have c1_ : decide (k < n') = false := decide_eq_false hlt
      have HP1 := Aside0.mk HF.out.p1
      have HP2 := Aside0.mk HF.out.p2
      have HB := Aside0.mk HF.out.bl
      clear hk hF hkn hnn hlt
      obtain ⟨r0, r1, r2, r3, r4, u0, u1, u2, u3, u4⟩ := five HP2.out
      go_wp2
      refine bodyPost_ret (results_ct rfl _ _ k1 100 #[.int .i64 lo, .int .i64 hi, .int .i64 la, .slice A n c, .slice A' n' c'] (0, 0) _ rfl (five_put HP2.out _ _ _ _ _) Try.underlying100 rfl (by kernel_rfl)) rfl ?_
      exact ⟨rfl, five_b HB.out HG.out.2.1 _ _ _ _ _⟩
set_option maxRecDepth 100000 in
set_option maxHeartbeats 16000000 in
theorem rpart_out (lo hi la : Int) {A : Option Addr} {n c : Nat} {l : List S175} {A' : Option Addr} {n' c' : Nat} {l' : List S177} {w : World} (h : Rw w A n c l A' n' c' l') (a p d1 d2 : Int) (k0 : Nat) (hk0 : k0 < n') (hf : ∃ h : k0 < l'.length, isQ a p d1 d2 l'[k0] = true) (hn : ∀ j (h : j < l'.length), j < k0 → isQ a p d1 d2 l'[j] = false) :
    Calls Try.prog 88 #[rt lo hi la A n c A' n' c', .agg #[.int .u32 a, .int .u16 p, .int .u32 d1, .int .u16 d2]] w fun e w' => ∃ A1 c1, e = .returned (.tuple #[rt lo hi la A n c A1 (n' - 1) c1, .int .i64 0]) ∧ Kd.R k177 177 w' w.heap.size (fun _ => True) (.slice A1 (n' - 1) c1) (l'.eraseIdx k0) ∧ Below w.heap.size w w' := by
  have hlen := h.len'; have hfew := h.few'; have hcap := h.cap'
  have HX := Aside0.mk (And.intro hk0 (And.intro hf hn))
  have HQ := Aside0.mk (And.intro (show (l'.eraseIdx k0).length = n' - 1 by rw [List.length_eraseIdx, if_pos (by omega), hlen]) (cut_list l' k0))
  obtain ⟨i, hi, hz0, hz1, hz2⟩ := info_parts info177
  have hcut1 := cut_to (P := Try.prog) 98 177 .i64 Try.underlying98 hi A' n' c' (k0 : Int) (by omega) (by omega) hcap
  have hcut2 := cut_from (P := Try.prog) 98 177 .i64 Try.underlying98 hi 5 hz1 A' n' c' ((k0 : Int) + 1) (by omega) (by omega)
  rw [Int.toNat_natCast] at hcut1
  rw [show ((k0 : Int) + 1).toNat = k0 + 1 by omega] at hcut2
  clear hi hz0 hz1 hz2 hf hn
  have HN := Aside0.mk (And.intro hlen (And.intro hfew hcap))
  clear hlen hfew hcap hk0
  have H := Aside0.mk h
  unfold rt
  clear h
  go_enter Try.func88, Try.ntmps88
  go_upto_region 1 with (fail)
  obtain ⟨hb1, hbe, hb2, hB⟩ := boxed3 w (.cells #[.int .i64 lo, .int .i64 hi, .int .i64 la, .slice A n c, .slice A' n' c'] 100) (.cells #[.int .u32 a, .int .u16 p, .int .u32 d1, .int .u16 d2] 107) (.cells #[.int .i64 0, .int .i64 0, .int .i64 0, .slice none 0 0, .slice none 0 0] 100)
  generalize ((w.alloc (.cells #[.int .i64 lo, .int .i64 hi, .int .i64 la, .slice A n c, .slice A' n' c'] 100)).alloc (.cells #[.int .u32 a, .int .u16 p, .int .u32 d1, .int .u16 d2] 107)).alloc (.cells #[.int .i64 0, .int .i64 0, .int .i64 0, .slice none 0 0, .slice none 0 0] 100) = w1 at hb1 hbe hb2 hB ⊢
  have HB := Aside0.mk hB
  have H1 := Aside0.mk (H.out.below hB)
  obtain ⟨k1, hk1⟩ : ∃ k1, k1 = w.heap.size + 1 + 1 := ⟨_, rfl⟩
  obtain ⟨ge, hge⟩ : ∃ ge, ge = w.heap.size + 1 := ⟨_, rfl⟩
  rw [← hk1] at hb2 ⊢
  rw [← hge] at hbe ⊢
  obtain ⟨g, hg⟩ : ∃ g, w.heap.size = g := ⟨_, rfl⟩
  rw [hg] at hb1 ⊢
  have HG := Aside0.mk (show w.heap.size ≤ g ∧ w.heap.size ≤ k1 ∧ k1 ≠ g ∧ g ≠ k1 ∧ ge ≠ g ∧ ge ≠ k1 by omega)
  have HP1 := Aside0.mk hb1
  have HPE := Aside0.mk hbe
  have HP2 := Aside0.mk hb2
  clear hB hb1 hbe hb2 hg hk1 hge
  obtain ⟨p0, p1, p2, p3, p4, s0, s1, s2, s3, s4⟩ := five HP1.out
  obtain ⟨r0, r1, r2, r3, r4, u0, u1, u2, u3, u4⟩ := five HP2.out
  have e0 := (blk_cell HPE.out 0).trans rfl
  have e1 := (blk_cell HPE.out 1).trans rfl
  have e2 := (blk_cell HPE.out 2).trans rfl
  have e3 := (blk_cell HPE.out 3).trans rfl
  have gl0 := blk_lt HP1.out
  have gl2 := blk_lt HP2.out
  have gle := blk_lt HPE.out
  go_wp2
  have HH : Aside0 (0 ≤ k0 ∧ Fr w w1 g ge k1 #[.int .i64 lo, .int .i64 hi, .int .i64 la, .slice A n c, .slice A' n' c'] #[.int .u32 a, .int .u16 p, .int .u32 d1, .int .u16 d2] #[.int .i64 0, .int .i64 0, .int .i64 0, .slice none 0 0, .slice none 0 0] 107 A n c l A' n' c' l' ∧ 0 ≤ n') := ⟨Nat.zero_le _, ⟨HP1.out, HPE.out, HP2.out, H1.out, HB.out⟩, Nat.zero_le _⟩
  clear HP1 HPE HP2 H1 HB
  clear p0 p1 p2 p3 p4 s0 s1 s2 s3 s4 r0 r1 r2 r3 r4 u0 u1 u2 u3 u4 gl0 gl2 gle e0 e1 e2 e3
  go_loopw [6] (fun i wr => ∃ k : Nat, i = .int .i64 k ∧ Aside0 (k ≤ k0 ∧ Fr w wr g ge k1 #[.int .i64 lo, .int .i64 hi, .int .i64 la, .slice A n c, .slice A' n' c'] #[.int .u32 a, .int .u16 p, .int .u32 d1, .int .u16 d2] #[.int .i64 0, .int .i64 0, .int .i64 0, .slice none 0 0, .slice none 0 0] 107 A n c l A' n' c' l' ∧ k ≤ n')) (fun i _ => n' - num i)
  case atStart => exact ⟨0, rfl, HH⟩
  case round =>
    clear HH
    obtain ⟨k, rfl, ⟨hk, hF, hkn⟩⟩ := hrel
    have HF := Aside0.mk hF
    obtain ⟨p0, p1, p2, p3, p4, -⟩ := five HF.out.p1
    have hnn := HN.out
    have e1 : IntKind.i64.wrap ((k : Int) + 1) = (k : Int) + 1 := wid _ (by omega) (by omega)
    have i1 : (0 : Int) ≤ (k : Int) := by omega
    have i2 : (0 : Int) ≤ (k : Int) + 1 := by omega
    have hk0' := HX.out.1
    obtain ⟨ad, AEQ, y0, y1, y2, y3, y4⟩ := at_T177 HF.out.rw.C' (k : Int) (by omega) (by omega)
    rw [Int.toNat_natCast, rd177 (by omega)] at y0 y1 y2 y3 y4
    have hkl : k < l'.length := by omega
    obtain ⟨X, hX⟩ : ∃ X, l'[k] = X := ⟨_, rfl⟩
    rw [hX] at y0 y1 y2 y3 y4
    have c0 : decide ((k : Int) < (n' : Int)) = true := decide_eq_true (by omega)
    have c1_ : decide (k < n') = true := decide_eq_true (by omega)
    have c2_ : (k < n') = True := eq_true (by omega)
    have c3_ : ((k : Int) < (n' : Int)) = True := eq_true (by omega)
    clear hk0'
    by_cases hlt : k < k0
    · subst AEQ
      have HZ := Aside0.mk (And.intro (show k + 1 ≤ k0 by omega) (show k + 1 ≤ n' by omega))
      have hno : isQ a p d1 d2 X = false := by rw [← hX]; exact HX.out.2.2 k hkl (by omega)
      have hq : ((X.f0.f0.f0 == a && (X.f0.f0.f1 == p)) && ((X.f0.f1.f0 == d1 && (X.f0.f1.f1 == d2)))) = false := hno
      clear hk hF hkn hnn hkl hX hno
      go_upto_region 4 with (fail)
      refine start_ (n := 8) (S := fun w' => (w'.heap[g]? = some (.cells #[.int .i64 lo, .int .i64 hi, .int .i64 la, .slice A n c, .slice (some ad) n' c'] 100 (0, 0)) ∧ w'.heap[ge]? = some (.cells #[.int .u32 a, .int .u16 p, .int .u32 d1, .int .u16 d2] 107 (0, 0))) ∧ w'.cell? (ad.add (k * 5)) = some (.int .u32 X.f0.f0.f0) ∧ w'.cell? ⟨(ad.add (k * 5)).block, (ad.add (k * 5)).off + 1, none⟩ = some (.int .u16 X.f0.f0.f1) ∧ w'.cell? ⟨(ad.add (k * 5)).block, (ad.add (k * 5)).off + 2, none⟩ = some (.int .u32 X.f0.f1.f0) ∧ w'.cell? ⟨(ad.add (k * 5)).block, (ad.add (k * 5)).off + 3, none⟩ = some (.int .u16 X.f0.f1.f1) ∧ w'.cell? ⟨(ad.add (k * 5)).block, (ad.add (k * 5)).off + 4, none⟩ = some (.int .i64 X.f1)) (ds := []) (bb 8 0) (by kernel_rfl) rfl rfl (⟨⟨HF.out.p1, HF.out.pe⟩, y0, y1, y2, y3, y4⟩) (fun hHeld => ?_)
      replace HF := Aside0.mk (HF.out.below (below_drew (Below.refl _ _)))
      clear y0 y1 y2 y3 y4 p0 p1 p2 p3 p4
      generalize World.drew _ = w5 at HF hHeld ⊢
      refine pure_ (i := 0) (N := some 14) (v := ?_) (a' := ?_) (bb 8 1) rfl rfl (by kernel_rfl) (fun _ _ _ h => h) (Or.inl ⟨by rfl, ?_⟩) ?_ ?_
      rotate_left
      · intro w'
        go_simp
        with_reducible rfl
      rotate_left
      · simp only [Act.put, List.setIfInBounds_toArray, List.set_cons_zero, List.set_cons_succ, i64_w, i32_w]
        rfl
      refine take_ (i := 1) (N := some 15) (v := ?_) (a' := ?_) (bb 8 3) rfl rfl (by kernel_rfl) (fun _ _ _ h => h) (Or.inl ⟨by rfl, ?_⟩) hHeld ?_ ?_
      rotate_left
      · intro w' hSw
        obtain ⟨p0, p1, p2, p3, p4, -⟩ := five hSw.1.1
        have e0 := (blk_cell hSw.1.2 0).trans rfl
        have e1 := (blk_cell hSw.1.2 1).trans rfl
        have e2 := (blk_cell hSw.1.2 2).trans rfl
        have e3 := (blk_cell hSw.1.2 3).trans rfl
        obtain ⟨y0, y1, y2, y3, y4⟩ := hSw.2
        go_simp
        with_reducible rfl
      rotate_left
      · simp only [Act.put, List.setIfInBounds_toArray, List.set_cons_zero, List.set_cons_succ, i64_w, i32_w]
        rfl
      refine pure_ (i := 2) (N := some 16) (v := ?_) (a' := ?_) (bb 8 7) rfl rfl (by kernel_rfl) (fun _ _ _ h => h) (Or.inl ⟨by rfl, ?_⟩) ?_ ?_
      rotate_left
      · intro w'
        go_simp
        with_reducible rfl
      rotate_left
      · simp only [Act.put, List.setIfInBounds_toArray, List.set_cons_zero, List.set_cons_succ, i64_w, i32_w]
        rfl
      refine pure_ (i := 3) (N := some 17) (v := ?_) (a' := ?_) (bb 8 15) rfl rfl (by kernel_rfl) (fun _ _ _ h => h) (Or.inl ⟨by rfl, ?_⟩) ?_ ?_
      rotate_left
      · intro w'
        go_simp
        with_reducible rfl
      rotate_left
      · simp only [Act.put, List.setIfInBounds_toArray, List.set_cons_zero, List.set_cons_succ, i64_w, i32_w]
        rfl
      refine pure_ (i := 4) (N := some 18) (v := ?_) (a' := ?_) (bb 8 31) rfl rfl (by kernel_rfl) (fun _ _ _ h => h) (Or.inl ⟨by rfl, ?_⟩) ?_ ?_
      rotate_left
      · intro w'
        go_simp
        with_reducible rfl
      rotate_left
      · simp only [Act.put, List.setIfInBounds_toArray, List.set_cons_zero, List.set_cons_succ, i64_w, i32_w]
        rfl
      refine take_ (i := 5) (N := some 19) (v := ?_) (a' := ?_) (bb 8 63) rfl rfl (by kernel_rfl) (fun _ _ _ h => h) (Or.inl ⟨by rfl, ?_⟩) hHeld ?_ ?_
      rotate_left
      · intro w' hSw
        obtain ⟨p0, p1, p2, p3, p4, -⟩ := five hSw.1.1
        have e0 := (blk_cell hSw.1.2 0).trans rfl
        have e1 := (blk_cell hSw.1.2 1).trans rfl
        have e2 := (blk_cell hSw.1.2 2).trans rfl
        have e3 := (blk_cell hSw.1.2 3).trans rfl
        obtain ⟨y0, y1, y2, y3, y4⟩ := hSw.2
        go_simp
        with_reducible rfl
      rotate_left
      · simp only [Act.put, List.setIfInBounds_toArray, List.set_cons_zero, List.set_cons_succ, i64_w, i32_w]
        rfl
      refine take_ (i := 6) (N := some 20) (v := ?_) (a' := ?_) (bb 8 127) rfl rfl (by kernel_rfl) (fun _ _ _ h => h) (Or.inl ⟨by rfl, ?_⟩) hHeld ?_ ?_
      rotate_left
      · intro w' hSw
        obtain ⟨p0, p1, p2, p3, p4, -⟩ := five hSw.1.1
        have e0 := (blk_cell hSw.1.2 0).trans rfl
        have e1 := (blk_cell hSw.1.2 1).trans rfl
        have e2 := (blk_cell hSw.1.2 2).trans rfl
        have e3 := (blk_cell hSw.1.2 3).trans rfl
        obtain ⟨y0, y1, y2, y3, y4⟩ := hSw.2
        go_simp
        with_reducible rfl
      rotate_left
      · simp only [Act.put, List.setIfInBounds_toArray, List.set_cons_zero, List.set_cons_succ, i64_w, i32_w]
        rfl
      refine pure_ (i := 7) (N := some 21) (v := ?_) (a' := ?_) (bb 8 255) rfl rfl (by kernel_rfl) (fun _ _ _ h => h) (Or.inl ⟨by rfl, ?_⟩) ?_ ?_
      rotate_left
      · intro w'
        go_simp
        with_reducible rfl
      rotate_left
      · simp only [Act.put, List.setIfInBounds_toArray, List.set_cons_zero, List.set_cons_succ, i64_w, i32_w]
        rfl
      refine done_ (by kernel_rfl) ?_
      clear hHeld
      go_wp2
      go_roundw
      case rel => exact ⟨k + 1, by go_num, ⟨HZ.out.1, HF.out, HZ.out.2⟩⟩
      case measure => simp only [num]; have := HZ.out.2; omega
    · obtain rfl : k = k0 := by omega
      have hk0' := HX.out.1
      subst AEQ
      have hyes : isQ a p d1 d2 X = true := by rw [← hX]; exact HX.out.2.1.2
      have hq : ((X.f0.f0.f0 == a && (X.f0.f0.f1 == p)) && ((X.f0.f1.f0 == d1 && (X.f0.f1.f1 == d2)))) = true := hyes
      have hC1 : Kd.C k177 wr (some ad) k (l'.take k) := by
        have := Kd.C_take (k := k177) (xs := l') (m := k) (by rw [hnn.1]; exact HF.out.rw.C') (by have := hnn.1; omega)
        rw [List.length_take, hnn.1, Nat.min_eq_left (by omega)] at this
        exact this
      have hC2 : Kd.C k177 wr (if c' = k + 1 then some ad else (some ad : Option Addr).map (·.add ((k + 1) * 5))) (n' - (k + 1)) (l'.drop (k + 1)) := by
        have := Kd.C_drop (k := k177) (xs := l') (m := k + 1) (c := c') (by rw [hnn.1]; exact HF.out.rw.C') (by have := hnn.1; omega) (by rw [hnn.1]; exact hnn.2.2)
        rw [List.length_drop, hnn.1] at this
        exact this
      generalize (if c' = k + 1 then some ad else (some ad : Option Addr).map (·.add ((k + 1) * 5))) = A2 at hcut2 hC2
      have HC := Aside0.mk (And.intro hC1 hC2)
      clear hk hF hkn hnn hkl hX hyes hlt hC1 hC2 hk0'
      go_upto_region 4 with (fail)
      refine start_ (n := 8) (S := fun w' => (w'.heap[g]? = some (.cells #[.int .i64 lo, .int .i64 hi, .int .i64 la, .slice A n c, .slice (some ad) n' c'] 100 (0, 0)) ∧ w'.heap[ge]? = some (.cells #[.int .u32 a, .int .u16 p, .int .u32 d1, .int .u16 d2] 107 (0, 0))) ∧ w'.cell? (ad.add (k * 5)) = some (.int .u32 X.f0.f0.f0) ∧ w'.cell? ⟨(ad.add (k * 5)).block, (ad.add (k * 5)).off + 1, none⟩ = some (.int .u16 X.f0.f0.f1) ∧ w'.cell? ⟨(ad.add (k * 5)).block, (ad.add (k * 5)).off + 2, none⟩ = some (.int .u32 X.f0.f1.f0) ∧ w'.cell? ⟨(ad.add (k * 5)).block, (ad.add (k * 5)).off + 3, none⟩ = some (.int .u16 X.f0.f1.f1) ∧ w'.cell? ⟨(ad.add (k * 5)).block, (ad.add (k * 5)).off + 4, none⟩ = some (.int .i64 X.f1)) (ds := []) (bb 8 0) (by kernel_rfl) rfl rfl (⟨⟨HF.out.p1, HF.out.pe⟩, y0, y1, y2, y3, y4⟩) (fun hHeld => ?_)
      replace HF := Aside0.mk (HF.out.below (below_drew (Below.refl _ _)))
      clear y0 y1 y2 y3 y4 p0 p1 p2 p3 p4
      replace HC := Aside0.mk (And.intro (Kd.C_drew HC.out.1) (Kd.C_drew HC.out.2))
      generalize World.drew _ = w5 at HF HC hHeld ⊢
      refine pure_ (i := 0) (N := some 14) (v := ?_) (a' := ?_) (bb 8 1) rfl rfl (by kernel_rfl) (fun _ _ _ h => h) (Or.inl ⟨by rfl, ?_⟩) ?_ ?_
      rotate_left
      · intro w'
        go_simp
        with_reducible rfl
      rotate_left
      · simp only [Act.put, List.setIfInBounds_toArray, List.set_cons_zero, List.set_cons_succ, i64_w, i32_w]
        rfl
      refine take_ (i := 1) (N := some 15) (v := ?_) (a' := ?_) (bb 8 3) rfl rfl (by kernel_rfl) (fun _ _ _ h => h) (Or.inl ⟨by rfl, ?_⟩) hHeld ?_ ?_
      rotate_left
      · intro w' hSw
        obtain ⟨p0, p1, p2, p3, p4, -⟩ := five hSw.1.1
        have e0 := (blk_cell hSw.1.2 0).trans rfl
        have e1 := (blk_cell hSw.1.2 1).trans rfl
        have e2 := (blk_cell hSw.1.2 2).trans rfl
        have e3 := (blk_cell hSw.1.2 3).trans rfl
        obtain ⟨y0, y1, y2, y3, y4⟩ := hSw.2
        go_simp
        with_reducible rfl
      rotate_left
      · simp only [Act.put, List.setIfInBounds_toArray, List.set_cons_zero, List.set_cons_succ, i64_w, i32_w]
        rfl
      refine pure_ (i := 2) (N := some 16) (v := ?_) (a' := ?_) (bb 8 7) rfl rfl (by kernel_rfl) (fun _ _ _ h => h) (Or.inl ⟨by rfl, ?_⟩) ?_ ?_
      rotate_left
      · intro w'
        go_simp
        with_reducible rfl
      rotate_left
      · simp only [Act.put, List.setIfInBounds_toArray, List.set_cons_zero, List.set_cons_succ, i64_w, i32_w]
        rfl
      refine pure_ (i := 3) (N := some 17) (v := ?_) (a' := ?_) (bb 8 15) rfl rfl (by kernel_rfl) (fun _ _ _ h => h) (Or.inl ⟨by rfl, ?_⟩) ?_ ?_
      rotate_left
      · intro w'
        go_simp
        with_reducible rfl
      rotate_left
      · simp only [Act.put, List.setIfInBounds_toArray, List.set_cons_zero, List.set_cons_succ, i64_w, i32_w]
        rfl
      refine pure_ (i := 4) (N := some 18) (v := ?_) (a' := ?_) (bb 8 31) rfl rfl (by kernel_rfl) (fun _ _ _ h => h) (Or.inl ⟨by rfl, ?_⟩) ?_ ?_
      rotate_left
      · intro w'
        go_simp
        with_reducible rfl
      rotate_left
      · simp only [Act.put, List.setIfInBounds_toArray, List.set_cons_zero, List.set_cons_succ, i64_w, i32_w]
        rfl
      refine take_ (i := 5) (N := some 19) (v := ?_) (a' := ?_) (bb 8 63) rfl rfl (by kernel_rfl) (fun _ _ _ h => h) (Or.inl ⟨by rfl, ?_⟩) hHeld ?_ ?_
      rotate_left
      · intro w' hSw
        obtain ⟨p0, p1, p2, p3, p4, -⟩ := five hSw.1.1
        have e0 := (blk_cell hSw.1.2 0).trans rfl
        have e1 := (blk_cell hSw.1.2 1).trans rfl
        have e2 := (blk_cell hSw.1.2 2).trans rfl
        have e3 := (blk_cell hSw.1.2 3).trans rfl
        obtain ⟨y0, y1, y2, y3, y4⟩ := hSw.2
        go_simp
        with_reducible rfl
      rotate_left
      · simp only [Act.put, List.setIfInBounds_toArray, List.set_cons_zero, List.set_cons_succ, i64_w, i32_w]
        rfl
      refine take_ (i := 6) (N := some 20) (v := ?_) (a' := ?_) (bb 8 127) rfl rfl (by kernel_rfl) (fun _ _ _ h => h) (Or.inl ⟨by rfl, ?_⟩) hHeld ?_ ?_
      rotate_left
      · intro w' hSw
        obtain ⟨p0, p1, p2, p3, p4, -⟩ := five hSw.1.1
        have e0 := (blk_cell hSw.1.2 0).trans rfl
        have e1 := (blk_cell hSw.1.2 1).trans rfl
        have e2 := (blk_cell hSw.1.2 2).trans rfl
        have e3 := (blk_cell hSw.1.2 3).trans rfl
        obtain ⟨y0, y1, y2, y3, y4⟩ := hSw.2
        go_simp
        with_reducible rfl
      rotate_left
      · simp only [Act.put, List.setIfInBounds_toArray, List.set_cons_zero, List.set_cons_succ, i64_w, i32_w]
        rfl
      refine pure_ (i := 7) (N := some 21) (v := ?_) (a' := ?_) (bb 8 255) rfl rfl (by kernel_rfl) (fun _ _ _ h => h) (Or.inl ⟨by rfl, ?_⟩) ?_ ?_
      rotate_left
      · intro w'
        go_simp
        with_reducible rfl
      rotate_left
      · simp only [Act.put, List.setIfInBounds_toArray, List.set_cons_zero, List.set_cons_succ, i64_w, i32_w]
        rfl
      refine done_ (by kernel_rfl) ?_
      clear hHeld
      go_upto_region 5 with (fail)
      refine start_ (n := 14) (S := fun w' => w'.heap[g]? = some (.cells #[.int .i64 lo, .int .i64 hi, .int .i64 la, .slice A n c, .slice (some ad) n' c'] 100 (0, 0))) (ds := [13]) (bb 14 0) (by kernel_rfl) rfl rfl (HF.out.p1) (fun hHeld => ?_)
      replace HF := Aside0.mk (HF.out.below (below_drew (Below.refl _ _)))
      replace HC := Aside0.mk (And.intro (Kd.C_drew HC.out.1) (Kd.C_drew HC.out.2))
      generalize World.drew _ = w6 at HF HC hHeld ⊢
      have HBr := Aside0.mk (Below.refl w6.heap.size w6)
      refine pure_ (i := 1) (N := some 23) (v := ?_) (a' := ?_) (bb 14 2) rfl rfl (by kernel_rfl) (fun _ _ _ h => h) (Or.inl ⟨by rfl, ?_⟩) ?_ ?_
      rotate_left
      · intro w'
        go_simp
        with_reducible rfl
      rotate_left
      · simp only [Act.put, List.setIfInBounds_toArray, List.set_cons_zero, List.set_cons_succ, i64_w, i32_w]
        rfl
      refine take_ (i := 2) (N := some 24) (v := ?_) (a' := ?_) (bb 14 6) rfl rfl (by kernel_rfl) (fun _ _ _ h => h) (Or.inl ⟨by rfl, ?_⟩) hHeld ?_ ?_
      rotate_left
      · intro w' hSw
        obtain ⟨p0, p1, p2, p3, p4, -⟩ := five hSw
        go_simp
        with_reducible rfl
      rotate_left
      · simp only [Act.put, List.setIfInBounds_toArray, List.set_cons_zero, List.set_cons_succ, i64_w, i32_w]
        rfl
      refine pure_ (i := 3) (N := some 25) (v := ?_) (a' := ?_) (bb 14 14) rfl rfl (by kernel_rfl) (fun _ _ _ h => h) (Or.inl ⟨by rfl, ?_⟩) ?_ ?_
      rotate_left
      · intro w'
        go_simp
        with_reducible rfl
      rotate_left
      · simp only [Act.put, List.setIfInBounds_toArray, List.set_cons_zero, List.set_cons_succ, i64_w, i32_w]
        rfl
      refine pure_ (i := 4) (N := some 26) (v := ?_) (a' := ?_) (bb 14 30) rfl rfl (by kernel_rfl) (fun _ _ _ h => h) (Or.inl ⟨by rfl, ?_⟩) ?_ ?_
      rotate_left
      · intro w'
        go_simp
        with_reducible rfl
      rotate_left
      · simp only [Act.put, List.setIfInBounds_toArray, List.set_cons_zero, List.set_cons_succ, i64_w, i32_w]
        rfl
      refine pure_ (i := 6) (N := some 28) (v := ?_) (a' := ?_) (bb 14 94) rfl rfl (by kernel_rfl) (fun _ _ _ h => h) (Or.inl ⟨by rfl, ?_⟩) ?_ ?_
      rotate_left
      · intro w'
        go_simp
        with_reducible rfl
      rotate_left
      · simp only [Act.put, List.setIfInBounds_toArray, List.set_cons_zero, List.set_cons_succ, i64_w, i32_w]
        rfl
      refine take_ (i := 7) (N := some 29) (v := ?_) (a' := ?_) (bb 14 222) rfl rfl (by kernel_rfl) (fun _ _ _ h => h) (Or.inl ⟨by rfl, ?_⟩) hHeld ?_ ?_
      rotate_left
      · intro w' hSw
        obtain ⟨p0, p1, p2, p3, p4, -⟩ := five hSw
        go_simp
        with_reducible rfl
      rotate_left
      · simp only [Act.put, List.setIfInBounds_toArray, List.set_cons_zero, List.set_cons_succ, i64_w, i32_w]
        rfl
      refine pure_ (i := 8) (N := some 30) (v := ?_) (a' := ?_) (bb 14 478) rfl rfl (by kernel_rfl) (fun _ _ _ h => h) (Or.inl ⟨by rfl, ?_⟩) ?_ ?_
      rotate_left
      · intro w'
        go_simp
        with_reducible rfl
      rotate_left
      · simp only [Act.put, List.setIfInBounds_toArray, List.set_cons_zero, List.set_cons_succ, i64_w, i32_w]
        rfl
      refine pure_ (i := 9) (N := some 31) (v := ?_) (a' := ?_) (bb 14 990) rfl rfl (by kernel_rfl) (fun _ _ _ h => h) (Or.inl ⟨by rfl, ?_⟩) ?_ ?_
      rotate_left
      · intro w'
        go_simp
        with_reducible rfl
      rotate_left
      · simp only [Act.put, List.setIfInBounds_toArray, List.set_cons_zero, List.set_cons_succ, i64_w, i32_w]
        rfl
      refine pure_ (i := 10) (N := some 32) (v := ?_) (a' := ?_) (bb 14 2014) rfl rfl (by kernel_rfl) (fun _ _ _ h => h) (Or.inl ⟨by rfl, ?_⟩) ?_ ?_
      rotate_left
      · intro w'
        go_simp
        with_reducible rfl
      rotate_left
      · simp only [Act.put, List.setIfInBounds_toArray, List.set_cons_zero, List.set_cons_succ, i64_w, i32_w]
        rfl
      refine one_ (i := 0) (N := some 22) (bb 14 2015) rfl rfl (by kernel_rfl) (by decide) (fun K hK => ?_)
      refine Kd.R_lit_step k177 (w0 := w6) w6.heap.size 177 (by rfl) rfl (xs := []) (inner := []) (ok := fun _ => True) (okp := fun _ => True) (by first | (go_simp; done) | (go_simp; rfl)) (Reps.none _ _) (fun _ h => h) trivial HBr.out HBr.out.size (by decide) ?_
      intro v1 w7 hR hB _ _
      have HR := Aside0.mk hR
      replace HBr := Aside0.mk hB
      clear hR hB
      refine hK.out _ _ (blk_below HF.out.p1 HBr.out) (fun hHeld => ?_)
      clear hK K
      refine norm_ (a' := ?_) ?_ ?_
      rotate_left
      · show Act.put _ (some 22) _ = _
        simp only [Act.put, List.setIfInBounds_toArray, List.set_cons_zero, List.set_cons_succ, i64_w, i32_w]
        rfl
      refine one_ (i := 5) (N := some 27) (bb 14 2047) rfl rfl (by kernel_rfl) (by decide) (fun K hK => ?_)
      refine Kd.R_append_rows_step k177 (Rr := k177.K w7) (w0 := w6) w6.heap.size (by rfl) (.tmp 22) (.tmp 26) 98 177 (.agg #[.int .u32 0, .int .u16 0, .int .u32 0, .int .u16 0, .int .i64 0]) 24 rfl Try.underlying98 info177 rfl (by decide) (by decide) v1 ([]) (l'.take k) (some ad) k c' (fun _ => True) (fun _ => False) rfl rfl HR.out (Kd.C_below HC.out.1 HBr.out) (fun x_ cs_ h_ => h_) (fun _ h => h.elim) (fun _ _ => trivial) HBr.out HBr.out.size (by have := HN.out; have := HX.out.1; simp only [List.length_nil]; omega) ?_
      intro v2 w8 hR hB _ _
      replace HR := Aside0.mk hR
      replace HBr := Aside0.mk hB
      clear hR hB
      refine hK.out _ _ (blk_below HF.out.p1 HBr.out) (fun hHeld => ?_)
      clear hK K
      refine norm_ (a' := ?_) ?_ ?_
      rotate_left
      · show Act.put _ (some 27) _ = _
        simp only [Act.put, List.setIfInBounds_toArray, List.set_cons_zero, List.set_cons_succ, i64_w, i32_w]
        rfl
      refine one_ (i := 11) (N := some 33) (bb 14 4095) rfl rfl (by kernel_rfl) (by decide) (fun K hK => ?_)
      refine Kd.R_append_rows_step k177 (Rr := k177.K w8) (w0 := w6) w6.heap.size (by rfl) (.tmp 27) (.tmp 32) 98 177 (.agg #[.int .u32 0, .int .u16 0, .int .u32 0, .int .u16 0, .int .i64 0]) 24 rfl Try.underlying98 info177 rfl (by decide) (by decide) v2 ([] ++ l'.take k) (l'.drop (k + 1)) A2 (n' - (k + 1)) (c' - (k + 1)) (fun _ => True) (fun _ => False) rfl rfl HR.out (Kd.C_below HC.out.2 HBr.out) (fun x_ cs_ h_ => h_) (fun _ h => h.elim) (fun _ _ => trivial) HBr.out HBr.out.size (by have := HN.out; have := HX.out.1; simp only [List.nil_append, List.length_take]; omega) ?_
      intro v3 w9 hR hB _ _
      rw [HQ.out.2] at hR
      obtain ⟨A3, c3, rfl⟩ := Kd.R_slice hR
      rw [HQ.out.1] at hR ⊢
      replace HR := Aside0.mk hR
      replace HBr := Aside0.mk hB
      have f6 := blk_frozen (blk_below HF.out.p1 hB) 4
      have g6 := (blk_cell (blk_below HF.out.p1 hB) 4).trans rfl
      clear hR hB
      refine hK.out _ _ (blk_below HF.out.p1 HBr.out) (fun hHeld => ?_)
      clear hK K
      refine norm_ (a' := ?_) ?_ ?_
      rotate_left
      · show Act.put _ (some 33) _ = _
        simp only [Act.put, List.setIfInBounds_toArray, List.set_cons_zero, List.set_cons_succ, i64_w, i32_w]
        rfl
      refine pure_ (i := 12) (N := some 34) (v := ?_) (a' := ?_) (bb 14 8191) rfl rfl (by kernel_rfl) (fun _ _ _ h => h) (Or.inl ⟨by rfl, ?_⟩) ?_ ?_
      rotate_left
      · intro w'
        go_simp
        with_reducible rfl
      rotate_left
      · simp only [Act.put, List.setIfInBounds_toArray, List.set_cons_zero, List.set_cons_succ, i64_w, i32_w]
        rfl
      refine last_ (i := 13) (N := none) (bb 14 16383) rfl rfl (by kernel_rfl) (by decide) (fun K hK => ?_)
      refine skip_ (w1 := w9.setCell ⟨g, 4, none⟩ (.slice A3 (n' - 1) c3)) (by rfl) rfl (by first | (go_simp; done) | (go_simp; rfl)) ?_
      refine hK.out _ _ ?_
      clear hK K
      refine done_ (by kernel_rfl) ?_
      replace HR := Aside0.mk (Kd.R_set HR.out (blk_below HF.out.p1 HBr.out) e177 4 (.slice A3 (n' - 1) c3))
      have HP2 := Aside0.mk (blk_far (blk_below HF.out.p2 HBr.out) (p := ⟨g, 4, none⟩) HG.out.2.2.1 (.slice A3 (n' - 1) c3))
      have HP3 := Aside0.mk (blk_put (blk_below HF.out.p1 HBr.out) 4 (.slice A3 (n' - 1) c3) rfl)
      have hle3 := HF.out.bl.size
      have HB := Aside0.mk (bput (i := 4) (u := .slice A3 (n' - 1) c3) (below_step HF.out.bl HBr.out) HG.out.1)
      have HL3 := Aside0.mk hle3
      clear f6 g6 hHeld hle3
      generalize w9.setCell ⟨g, 4, none⟩ (.slice A3 (n' - 1) c3) = w10 at HR HP2 HP3 HB ⊢
      obtain ⟨p0, p1, p2, p3, p4, -⟩ := five HP3.out
      obtain ⟨r0, r1, r2, r3, r4, u0, u1, u2, u3, u4⟩ := five HP2.out
      go_wp2
      refine bodyPost_ret (results_ct rfl _ _ k1 100 #[.int .i64 lo, .int .i64 hi, .int .i64 la, .slice A n c, .slice A3 (n' - 1) c3] (0, 0) _ rfl (five_put HP2.out _ _ _ _ _) Try.underlying100 rfl (by kernel_rfl)) rfl ?_
      exact ⟨A3, c3, rfl, Kd.R_lower (R_five HR.out e177 HP2.out _ _ _ _ _) HL3.out, five_b HB.out HG.out.2.1 _ _ _ _ _⟩
end Go.Proofs.Ytimgfdkndlbfbaa.HPortR
