/- The laws of octet: OctetPuts' function answers true, for all bytes and numbers. Conditions: each theorem's own. -/
import Derived.Test.YtcnodelfblpdiaaPOctx1
import Derived.Test.YtcnodelfblpdiaaOctLOctPut
import Derived.Test.YtcnodelfblpdiaaHReg
import Derived.WalkSpells
namespace Go.Proofs.Ytcnodelfblpdiaa.POctL
open Go.RowKit Go.Proofs.YtcnodelfblpdiaaW.PrintWords Go.Proofs.YtcnodelfblpdiaaW.PrintLast Go.Proofs.YtcnodelfblpdiaaW.PrintMore Go.Proofs.Ytcnodelfblpdiaa.HReg Go.Proofs.Ytcnodelfblpdiaa.POct
set_option linter.unusedVariables false
set_option linter.unusedSimpArgs false
theorem cs {w : World} {A : Option Addr} {n c : Nat} {xs : List Int} (h : Kd.C (Kd.int .u8) w A n xs) : (convert 29 9 (.slice A n c)).run Try.prog w = .ok (.string (strOfNums xs)) w :=
  Kd.C_string Try.underlying29 Try.underlying5 Try.underlying9 h
theorem R_to_C {w : World} {base m c : Nat} {ok : Nat → Prop} {A : Option Addr} {xs : List Int} (h : Kd.R (Kd.int .u8) 5 w base ok (.slice A m c) xs) : Kd.C (Kd.int .u8) w A m xs := by
  have := Kd.R_reads' h
  rw [this.1]
  exact this.2.2
theorem R_sl {w : World} {base : Nat} {ok : Nat → Prop} {v : Value} {xs : List Int} (h : Kd.R (Kd.int .u8) 5 w base ok v xs) : ∃ A n c, v = .slice A n c := by
  obtain ⟨A, c, e⟩ := Kd.R_slice h
  exact ⟨A, _, c, e⟩
theorem str_cat (a b : List Int) : strOfNums (a ++ b) = strOfNums a ++ strOfNums b := by
  apply ByteArray.ext
  simp [strOfNums]
/-- OctetPuts answers true, for all bytes and numbers. -/
def towropelaw01_OctetPuts.f (l0 : List Int) (a1 a2 : Int) : Option Bool := if l0.length ≤ 140737488351232 ∧ 0 ≤ a2 ∧ a2 ≤ 4294967295 then some true else none
set_option maxRecDepth 100000 in
set_option maxHeartbeats 4000000 in
theorem towropelaw01_OctetPuts.calls (A0 : Option Addr) (c0 : Nat) (l0 : List Int) (a1 : Int) (a2 : Int) (r : Bool) (w : World) (hr0 : Kd.C (Kd.int .u8) w A0 l0.length l0) (hc0 : l0.length ≤ c0) (h : towropelaw01_OctetPuts.f l0 a1 a2 = some r) :
    Calls Try.prog 4 #[.slice A0 l0.length c0, .int .i64 a1, .int .u32 a2] w fun e w' => e = .returned (.bool r) ∧ Below w.heap.size w w' := by
  unfold towropelaw01_OctetPuts.f at h
  split at h
  case isFalse => cases h
  case isTrue ha =>
  obtain ⟨hl, m0, m1⟩ := ha
  cases h
  have HC := Aside0.mk hr0
  have HL := Aside0.mk (And.intro hc0 hl)
  have HM := Aside0.mk (And.intro m0 m1)
  obtain ⟨X0, hX0⟩ : ∃ X, X = strOfNums l0 := ⟨_, rfl⟩
  obtain ⟨X2, hX2⟩ : ∃ X, X = strOfNums (twoS a1) := ⟨_, rfl⟩
  obtain ⟨X4, hX4⟩ : ∃ X, X = strOfNums (fourS a2) := ⟨_, rfl⟩
  have z0 : X0.size = l0.length := by rw [hX0]; simp [strOfNums, ByteArray.size]
  have z2 : X2.size = 2 := by rw [hX2]; simp [strOfNums, ByteArray.size, twoS]
  have z4 : X4.size = 4 := by rw [hX4]; simp [strOfNums, ByteArray.size, fourS]
  have s2 : (9223372036854775807 < X0.size + X2.size) = False := eq_false (by omega)
  have s4 : (9223372036854775807 < X0.size + X4.size) = False := eq_false (by omega)
  have HX := Aside0.mk (And.intro hX0 (And.intro hX2 hX4))
  clear z0 z2 z4 hX0 hX2 hX4 hr0 hc0 hl m0 m1
  go_enter Try.func4, Try.ntmps4
  go_upto_region 1 with (fail)
  refine start_ (n := 25) (S := fun w' => (convert 29 9 (.slice A0 l0.length c0)).run Try.prog w' = .ok (.string (X0)) w') (ds := []) (bb 25 0) (by kernel_rfl) rfl rfl (by rw [HX.out.1]; exact cs (Kd.C_drew HC.out)) (fun hHeld => ?_)
  have HB := Aside0.mk (below_drew (Below.refl w.heap.size w))
  have HC0 := Aside0.mk (Kd.C_drew HC.out)
  generalize w.drew = w1 at HB HC0 hHeld ⊢
  refine pure_ (i := 0) (N := some 7) (v := ?_) (a' := ?_) (bb 25 1) rfl rfl (by kernel_rfl) (fun _ _ _ h => h) (Or.inl ⟨by rfl, ?_⟩) ?_ ?_
  rotate_left
  · intro w'
    go_simp
    with_reducible rfl
  rotate_left
  · simp only [Act.put, List.setIfInBounds_toArray, List.set_cons_zero, List.set_cons_succ, i64_w, i32_w]
    rfl
  refine pure_ (i := 1) (N := some 8) (v := ?_) (a' := ?_) (bb 25 3) rfl rfl (by kernel_rfl) (fun _ _ _ h => h) (Or.inl ⟨by rfl, ?_⟩) ?_ ?_
  rotate_left
  · intro w'
    go_simp
    with_reducible rfl
  rotate_left
  · simp only [Act.put, List.setIfInBounds_toArray, List.set_cons_zero, List.set_cons_succ, i64_w, i32_w]
    rfl
  refine pure_ (i := 4) (N := some 11) (v := ?_) (a' := ?_) (bb 25 19) rfl rfl (by kernel_rfl) (fun _ _ _ h => h) (Or.inl ⟨by rfl, ?_⟩) ?_ ?_
  rotate_left
  · intro w'
    go_simp
    with_reducible rfl
  rotate_left
  · simp only [Act.put, List.setIfInBounds_toArray, List.set_cons_zero, List.set_cons_succ, i64_w, i32_w]
    rfl
  refine take_ (i := 5) (N := some 12) (v := ?_) (a' := ?_) (bb 25 51) rfl rfl (by kernel_rfl) (fun _ _ _ h => h) (Or.inl ⟨by rfl, ?_⟩) hHeld ?_ ?_
  rotate_left
  · intro w' hSw
    go_simp
    with_reducible rfl
  rotate_left
  · simp only [Act.put, List.setIfInBounds_toArray, List.set_cons_zero, List.set_cons_succ, i64_w, i32_w]
    rfl
  refine pure_ (i := 6) (N := some 13) (v := ?_) (a' := ?_) (bb 25 115) rfl rfl (by kernel_rfl) (fun _ _ _ h => h) (Or.inl ⟨by rfl, ?_⟩) ?_ ?_
  rotate_left
  · intro w'
    go_simp
    with_reducible rfl
  rotate_left
  · simp only [Act.put, List.setIfInBounds_toArray, List.set_cons_zero, List.set_cons_succ, i64_w, i32_w]
    rfl
  refine one_ (i := 2) (N := some 9) (bb 25 119) rfl rfl (by kernel_rfl) (by decide) (fun K hK => ?_)
  refine goes_ Try.func23 (by kernel_rfl) rfl #[.slice A0 l0.length c0, .int .i64 a1] (by rfl) rfl rfl (by (try simp only [List.map_toArray, List.map_cons, List.map_nil]); first | done | rfl | (go_simp; done) | (go_simp; omega)) ?_
  refine Calls.mono (octet_Put16.calls 3 A0 c0 l0 a1 (l0 ++ twoS a1) w1 HC0.out HL.out.1 (put16_f 0 l0 a1 (by have := HL.out.2; omega))) ?_
  rintro e w' ⟨v_, rfl, hR, hB⟩
  refine ⟨_, rfl, ?_⟩
  obtain ⟨A9, n9, c9, rfl⟩ := R_sl hR
  have HB := Aside0.mk (below_step HB.out hB)
  have HC0 := Aside0.mk (Kd.C_below HC0.out hB)
  have HC9 := Aside0.mk (R_to_C hR)
  clear hR hB
  refine hK.out _ _ (by rw [HX.out.1]; exact cs HC0.out) (fun hHeld => ?_)
  clear hK K
  refine norm_ (a' := ?_) ?_ ?_
  rotate_left
  · show Act.put _ (some 9) _ = _
    simp only [Act.put, List.setIfInBounds_toArray, List.set_cons_zero, List.set_cons_succ, i64_w, i32_w]
    rfl
  refine more_ (S' := fun w' => (convert 29 9 (.slice A0 l0.length c0)).run Try.prog w' = .ok (.string (X0)) w' ∧ (convert 29 9 (.slice A9 n9 c9)).run Try.prog w' = .ok (.string (X0 ++ X2)) w') (fun _ h => h.1) (⟨by rw [HX.out.1]; exact cs HC0.out, by rw [HX.out.1, HX.out.2.1, ← str_cat]; exact cs HC9.out⟩) (fun hHeld => ?_)
  refine take_ (i := 3) (N := some 10) (v := ?_) (a' := ?_) (bb 25 127) rfl rfl (by kernel_rfl) (fun _ _ _ h => h) (Or.inl ⟨by rfl, ?_⟩) hHeld ?_ ?_
  rotate_left
  · intro w' hSw
    obtain ⟨q0, q1⟩ := hSw
    go_simp
    with_reducible rfl
  rotate_left
  · simp only [Act.put, List.setIfInBounds_toArray, List.set_cons_zero, List.set_cons_succ, i64_w, i32_w]
    rfl
  refine one_ (i := 7) (N := some 14) (bb 25 255) rfl rfl (by kernel_rfl) (by decide) (fun K hK => ?_)
  refine goes_ Try.func24 (by kernel_rfl) rfl #[.int .i64 a1] (by rfl) rfl rfl (by (try simp only [List.map_toArray, List.map_cons, List.map_nil]); first | done | rfl | (go_simp; done) | (go_simp; omega)) ?_
  refine Calls.mono (towroperef01_Two.calls a1 (twoS a1) w' (two_f a1)) ?_
  rintro e w' ⟨v_, rfl, hR, hB⟩
  refine ⟨_, rfl, ?_⟩
  obtain ⟨A14, n14, c14, rfl⟩ := R_sl hR
  have HB := Aside0.mk (below_step HB.out hB)
  have HC0 := Aside0.mk (Kd.C_below HC0.out hB)
  have HC9 := Aside0.mk (Kd.C_below HC9.out hB)
  have HC14 := Aside0.mk (R_to_C hR)
  clear hR hB
  refine hK.out _ _ (⟨by rw [HX.out.1]; exact cs HC0.out, by rw [HX.out.1, HX.out.2.1, ← str_cat]; exact cs HC9.out⟩) (fun hHeld => ?_)
  clear hK K
  refine norm_ (a' := ?_) ?_ ?_
  rotate_left
  · show Act.put _ (some 14) _ = _
    simp only [Act.put, List.setIfInBounds_toArray, List.set_cons_zero, List.set_cons_succ, i64_w, i32_w]
    rfl
  refine more_ (S' := fun w' => (convert 29 9 (.slice A0 l0.length c0)).run Try.prog w' = .ok (.string (X0)) w' ∧ (convert 29 9 (.slice A9 n9 c9)).run Try.prog w' = .ok (.string (X0 ++ X2)) w' ∧ (convert 29 9 (.slice A14 n14 c14)).run Try.prog w' = .ok (.string (X2)) w') (fun _ h => ⟨h.1, h.2.1⟩) (⟨by rw [HX.out.1]; exact cs HC0.out, by rw [HX.out.1, HX.out.2.1, ← str_cat]; exact cs HC9.out, by rw [HX.out.2.1]; exact cs HC14.out⟩) (fun hHeld => ?_)
  refine take_ (i := 8) (N := some 15) (v := ?_) (a' := ?_) (bb 25 511) rfl rfl (by kernel_rfl) (fun _ _ _ h => h) (Or.inl ⟨by rfl, ?_⟩) hHeld ?_ ?_
  rotate_left
  · intro w' hSw
    obtain ⟨q0, q1, q2⟩ := hSw
    go_simp
    with_reducible rfl
  rotate_left
  · simp only [Act.put, List.setIfInBounds_toArray, List.set_cons_zero, List.set_cons_succ, i64_w, i32_w]
    rfl
  refine pure_ (i := 9) (N := some 16) (v := ?_) (a' := ?_) (bb 25 1023) rfl rfl (by kernel_rfl) (fun _ _ _ h => h) (Or.inl ⟨by rfl, ?_⟩) ?_ ?_
  rotate_left
  · intro w'
    go_simp
    with_reducible rfl
  rotate_left
  · simp only [Act.put, List.setIfInBounds_toArray, List.set_cons_zero, List.set_cons_succ, i64_w, i32_w]
    rfl
  refine pure_ (i := 10) (N := some 17) (v := ?_) (a' := ?_) (bb 25 2047) rfl rfl (by kernel_rfl) (fun _ _ _ h => h) (Or.inl ⟨by rfl, ?_⟩) ?_ ?_
  rotate_left
  · intro w'
    go_simp
    with_reducible rfl
  rotate_left
  · simp only [Act.put, List.setIfInBounds_toArray, List.set_cons_zero, List.set_cons_succ, i64_w, i32_w]
    rfl
  refine pure_ (i := 11) (N := some 18) (v := ?_) (a' := ?_) (bb 25 4095) rfl rfl (by kernel_rfl) (fun _ _ _ h => h) (Or.inl ⟨by rfl, ?_⟩) ?_ ?_
  rotate_left
  · intro w'
    go_simp
    with_reducible rfl
  rotate_left
  · simp only [Act.put, List.setIfInBounds_toArray, List.set_cons_zero, List.set_cons_succ, i64_w, i32_w]
    rfl
  refine pure_ (i := 12) (N := some 19) (v := ?_) (a' := ?_) (bb 25 8191) rfl rfl (by kernel_rfl) (fun _ _ _ h => h) (Or.inl ⟨by rfl, ?_⟩) ?_ ?_
  rotate_left
  · intro w'
    go_simp
    with_reducible rfl
  rotate_left
  · simp only [Act.put, List.setIfInBounds_toArray, List.set_cons_zero, List.set_cons_succ, i64_w, i32_w]
    rfl
  refine pure_ (i := 13) (N := some 20) (v := ?_) (a' := ?_) (bb 25 16383) rfl rfl (by kernel_rfl) (fun _ _ _ h => h) (Or.inl ⟨by rfl, ?_⟩) ?_ ?_
  rotate_left
  · intro w'
    go_simp
    with_reducible rfl
  rotate_left
  · simp only [Act.put, List.setIfInBounds_toArray, List.set_cons_zero, List.set_cons_succ, i64_w, i32_w]
    rfl
  refine pure_ (i := 16) (N := some 23) (v := ?_) (a' := ?_) (bb 25 81919) rfl rfl (by kernel_rfl) (fun _ _ _ h => h) (Or.inl ⟨by rfl, ?_⟩) ?_ ?_
  rotate_left
  · intro w'
    go_simp
    with_reducible rfl
  rotate_left
  · simp only [Act.put, List.setIfInBounds_toArray, List.set_cons_zero, List.set_cons_succ, i64_w, i32_w]
    rfl
  refine take_ (i := 17) (N := some 24) (v := ?_) (a' := ?_) (bb 25 212991) rfl rfl (by kernel_rfl) (fun _ _ _ h => h) (Or.inl ⟨by rfl, ?_⟩) hHeld ?_ ?_
  rotate_left
  · intro w' hSw
    obtain ⟨q0, q1, q2⟩ := hSw
    go_simp
    with_reducible rfl
  rotate_left
  · simp only [Act.put, List.setIfInBounds_toArray, List.set_cons_zero, List.set_cons_succ, i64_w, i32_w]
    rfl
  refine pure_ (i := 18) (N := some 25) (v := ?_) (a' := ?_) (bb 25 475135) rfl rfl (by kernel_rfl) (fun _ _ _ h => h) (Or.inl ⟨by rfl, ?_⟩) ?_ ?_
  rotate_left
  · intro w'
    go_simp
    with_reducible rfl
  rotate_left
  · simp only [Act.put, List.setIfInBounds_toArray, List.set_cons_zero, List.set_cons_succ, i64_w, i32_w]
    rfl
  refine one_ (i := 14) (N := some 21) (bb 25 491519) rfl rfl (by kernel_rfl) (by decide) (fun K hK => ?_)
  refine goes_ Try.func25 (by kernel_rfl) rfl #[.slice A0 l0.length c0, .int .u32 a2] (by rfl) rfl rfl (by (try simp only [List.map_toArray, List.map_cons, List.map_nil]); first | done | rfl | (go_simp; done) | (go_simp; omega)) ?_
  refine Calls.mono (octet_Put32.calls 5 A0 c0 l0 a2 (l0 ++ fourS a2) w' HC0.out HL.out.1 (put32_f 0 l0 a2 HM.out.1 HM.out.2 (by have := HL.out.2; omega))) ?_
  rintro e w' ⟨v_, rfl, hR, hB⟩
  refine ⟨_, rfl, ?_⟩
  obtain ⟨A21, n21, c21, rfl⟩ := R_sl hR
  have HB := Aside0.mk (below_step HB.out hB)
  have HC0 := Aside0.mk (Kd.C_below HC0.out hB)
  have HC9 := Aside0.mk (Kd.C_below HC9.out hB)
  have HC14 := Aside0.mk (Kd.C_below HC14.out hB)
  have HC21 := Aside0.mk (R_to_C hR)
  clear hR hB
  refine hK.out _ _ (⟨by rw [HX.out.1]; exact cs HC0.out, by rw [HX.out.1, HX.out.2.1, ← str_cat]; exact cs HC9.out, by rw [HX.out.2.1]; exact cs HC14.out⟩) (fun hHeld => ?_)
  clear hK K
  refine norm_ (a' := ?_) ?_ ?_
  rotate_left
  · show Act.put _ (some 21) _ = _
    simp only [Act.put, List.setIfInBounds_toArray, List.set_cons_zero, List.set_cons_succ, i64_w, i32_w]
    rfl
  refine more_ (S' := fun w' => (convert 29 9 (.slice A0 l0.length c0)).run Try.prog w' = .ok (.string (X0)) w' ∧ (convert 29 9 (.slice A9 n9 c9)).run Try.prog w' = .ok (.string (X0 ++ X2)) w' ∧ (convert 29 9 (.slice A14 n14 c14)).run Try.prog w' = .ok (.string (X2)) w' ∧ (convert 29 9 (.slice A21 n21 c21)).run Try.prog w' = .ok (.string (X0 ++ X4)) w') (fun _ h => ⟨h.1, h.2.1, h.2.2.1⟩) (⟨by rw [HX.out.1]; exact cs HC0.out, by rw [HX.out.1, HX.out.2.1, ← str_cat]; exact cs HC9.out, by rw [HX.out.2.1]; exact cs HC14.out, by rw [HX.out.1, HX.out.2.2, ← str_cat]; exact cs HC21.out⟩) (fun hHeld => ?_)
  refine take_ (i := 15) (N := some 22) (v := ?_) (a' := ?_) (bb 25 524287) rfl rfl (by kernel_rfl) (fun _ _ _ h => h) (Or.inl ⟨by rfl, ?_⟩) hHeld ?_ ?_
  rotate_left
  · intro w' hSw
    obtain ⟨q0, q1, q2, q3⟩ := hSw
    go_simp
    with_reducible rfl
  rotate_left
  · simp only [Act.put, List.setIfInBounds_toArray, List.set_cons_zero, List.set_cons_succ, i64_w, i32_w]
    rfl
  refine one_ (i := 19) (N := some 26) (bb 25 1048575) rfl rfl (by kernel_rfl) (by decide) (fun K hK => ?_)
  refine goes_ Try.func26 (by kernel_rfl) rfl #[.int .u32 a2] (by rfl) rfl rfl (by (try simp only [List.map_toArray, List.map_cons, List.map_nil]); first | done | rfl | (go_simp; done) | (go_simp; omega)) ?_
  refine Calls.mono (towroperef01_Four.calls a2 (fourS a2) w' (four_f a2 HM.out.1 HM.out.2)) ?_
  rintro e w' ⟨v_, rfl, hR, hB⟩
  refine ⟨_, rfl, ?_⟩
  obtain ⟨A26, n26, c26, rfl⟩ := R_sl hR
  have HB := Aside0.mk (below_step HB.out hB)
  have HC0 := Aside0.mk (Kd.C_below HC0.out hB)
  have HC9 := Aside0.mk (Kd.C_below HC9.out hB)
  have HC14 := Aside0.mk (Kd.C_below HC14.out hB)
  have HC21 := Aside0.mk (Kd.C_below HC21.out hB)
  have HC26 := Aside0.mk (R_to_C hR)
  clear hR hB
  refine hK.out _ _ (⟨by rw [HX.out.1]; exact cs HC0.out, by rw [HX.out.1, HX.out.2.1, ← str_cat]; exact cs HC9.out, by rw [HX.out.2.1]; exact cs HC14.out, by rw [HX.out.1, HX.out.2.2, ← str_cat]; exact cs HC21.out⟩) (fun hHeld => ?_)
  clear hK K
  refine norm_ (a' := ?_) ?_ ?_
  rotate_left
  · show Act.put _ (some 26) _ = _
    simp only [Act.put, List.setIfInBounds_toArray, List.set_cons_zero, List.set_cons_succ, i64_w, i32_w]
    rfl
  refine more_ (S' := fun w' => (convert 29 9 (.slice A0 l0.length c0)).run Try.prog w' = .ok (.string (X0)) w' ∧ (convert 29 9 (.slice A9 n9 c9)).run Try.prog w' = .ok (.string (X0 ++ X2)) w' ∧ (convert 29 9 (.slice A14 n14 c14)).run Try.prog w' = .ok (.string (X2)) w' ∧ (convert 29 9 (.slice A21 n21 c21)).run Try.prog w' = .ok (.string (X0 ++ X4)) w' ∧ (convert 29 9 (.slice A26 n26 c26)).run Try.prog w' = .ok (.string (X4)) w') (fun _ h => ⟨h.1, h.2.1, h.2.2.1, h.2.2.2.1⟩) (⟨by rw [HX.out.1]; exact cs HC0.out, by rw [HX.out.1, HX.out.2.1, ← str_cat]; exact cs HC9.out, by rw [HX.out.2.1]; exact cs HC14.out, by rw [HX.out.1, HX.out.2.2, ← str_cat]; exact cs HC21.out, by rw [HX.out.2.2]; exact cs HC26.out⟩) (fun hHeld => ?_)
  refine take_ (i := 20) (N := some 27) (v := ?_) (a' := ?_) (bb 25 2097151) rfl rfl (by kernel_rfl) (fun _ _ _ h => h) (Or.inl ⟨by rfl, ?_⟩) hHeld ?_ ?_
  rotate_left
  · intro w' hSw
    obtain ⟨q0, q1, q2, q3, q4⟩ := hSw
    go_simp
    with_reducible rfl
  rotate_left
  · simp only [Act.put, List.setIfInBounds_toArray, List.set_cons_zero, List.set_cons_succ, i64_w, i32_w]
    rfl
  refine pure_ (i := 21) (N := some 28) (v := ?_) (a' := ?_) (bb 25 4194303) rfl rfl (by kernel_rfl) (fun _ _ _ h => h) (Or.inl ⟨by rfl, ?_⟩) ?_ ?_
  rotate_left
  · intro w'
    go_simp
    with_reducible rfl
  rotate_left
  · simp only [Act.put, List.setIfInBounds_toArray, List.set_cons_zero, List.set_cons_succ, i64_w, i32_w]
    rfl
  refine pure_ (i := 22) (N := some 29) (v := ?_) (a' := ?_) (bb 25 8388607) rfl rfl (by kernel_rfl) (fun _ _ _ h => h) (Or.inl ⟨by rfl, ?_⟩) ?_ ?_
  rotate_left
  · intro w'
    go_simp
    with_reducible rfl
  rotate_left
  · simp only [Act.put, List.setIfInBounds_toArray, List.set_cons_zero, List.set_cons_succ, i64_w, i32_w]
    rfl
  refine pure_ (i := 23) (N := some 30) (v := ?_) (a' := ?_) (bb 25 16777215) rfl rfl (by kernel_rfl) (fun _ _ _ h => h) (Or.inl ⟨by rfl, ?_⟩) ?_ ?_
  rotate_left
  · intro w'
    go_simp
    with_reducible rfl
  rotate_left
  · simp only [Act.put, List.setIfInBounds_toArray, List.set_cons_zero, List.set_cons_succ, i64_w, i32_w]
    rfl
  refine pure_ (i := 24) (N := some 6) (v := ?_) (a' := ?_) (bb 25 33554431) rfl rfl (by kernel_rfl) (fun _ _ _ h => h) (Or.inl ⟨by rfl, ?_⟩) ?_ ?_
  rotate_left
  · intro w'
    go_simp
    with_reducible rfl
  rotate_left
  · simp only [Act.put, List.setIfInBounds_toArray, List.set_cons_zero, List.set_cons_succ, i64_w, i32_w]
    rfl
  refine done_ (by kernel_rfl) ?_
  go_wp2
  go_ret
  exact ⟨rfl, HB.out⟩
end Go.Proofs.Ytcnodelfblpdiaa.POctL
