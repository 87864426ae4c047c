/- The law PortPlays: its function answers true. Conditions: each theorem's own. -/
import Derived.Test.YtimgfdkndlbfbaaHPortV
import Derived.Deep.CutRange
import Derived.Deep.CutBlock
namespace Go.Proofs.Ytimgfdkndlbfbaa.PPortL
open Go.RowKit Go.Proofs.YtimgfdkndlbfbaaW.PrintWords Go.Proofs.YtimgfdkndlbfbaaW.PrintLast Go.Proofs.YtimgfdkndlbfbaaW.PrintMore Go.Proofs.Ytimgfdkndlbfbaa.HPort Go.Proofs.Ytimgfdkndlbfbaa.HPortR Go.Proofs.Ytimgfdkndlbfbaa.PRp Go.Proofs.Ytimgfdkndlbfbaa.HReg Go.Proofs.Ytimgfdkndlbfbaa.HPortS
set_option linter.unusedVariables false
set_option linter.unusedSimpArgs false
set_option linter.unusedSectionVars false
set_option maxRecDepth 100000 in
set_option maxHeartbeats 60000000 in
theorem plays_many (low high : Int) (A1 : Option Addr) (nn c1 : Nat) (w : World) (hn : 100 < nn) :
    Calls Try.prog 8 #[.int .i64 low, .int .i64 high, .slice A1 nn c1] w fun e w' => e = .returned (.bool true) ∧ Below w.heap.size w w' := by
  have d0 : decide (100 < (nn : Int)) = true := decide_eq_true (by omega)
  have d1 : decide (100 < nn) = true := decide_eq_true hn
  clear hn
  go_enter Try.func8, Try.ntmps8
  go_wp2_with (go_at_call 44; refine (live_calls _).mono ?_; rintro e w8 ⟨rfl, hB⟩; have HB8 := Aside0.mk hB; clear hB)
  go_ret
  exact ⟨rfl, HB8.out⟩
set_option maxRecDepth 100000 in
set_option maxHeartbeats 60000000 in
theorem plays_wide (low high : Int) (A1 : Option Addr) (nn c1 : Nat) (w : World) (hn : nn ≤ 100) (h0 : 200 < wrap64 (high - low)) (h1 : 1 ≤ low) (h2 : high ≤ 65535) :
    Calls Try.prog 8 #[.int .i64 low, .int .i64 high, .slice A1 nn c1] w fun e w' => e = .returned (.bool true) ∧ Below w.heap.size w w' := by
  have d0 : decide (100 < (nn : Int)) = false := decide_eq_false (by omega)
  have d0' : decide (100 < nn) = false := decide_eq_false (by omega)
  have d1 : decide (200 < wrap64 (high - low)) = true := decide_eq_true h0
  have d2 : decide (1 ≤ low) = true := decide_eq_true h1
  have d3 : decide (high ≤ 65535) = true := decide_eq_true h2
  clear hn h0 h1 h2
  go_enter Try.func8, Try.ntmps8
  go_wp2_with (go_at_call 44; refine (live_calls _).mono ?_; rintro e w8 ⟨rfl, hB⟩; have HB8 := Aside0.mk hB; clear hB)
  go_ret
  exact ⟨rfl, HB8.out⟩
set_option maxRecDepth 100000 in
set_option maxHeartbeats 60000000 in
theorem plays_bad00 (low high : Int) (A1 : Option Addr) (nn c1 : Nat) (w : World) (hn : nn ≤ 100) (hb : low < 1 ∨ high < low ∨ 65535 < high) (hq : ¬ 200 < wrap64 (high - low)) (k0 : low < 1) :
    Calls Try.prog 8 #[.int .i64 low, .int .i64 high, .slice A1 nn c1] w fun e w' => e = .returned (.bool true) ∧ Below w.heap.size w w' := by
  have d0 : decide (100 < (nn : Int)) = false := decide_eq_false (by omega)
  have d0' : decide (100 < nn) = false := decide_eq_false (by omega)
  have HC := Aside0.mk (new_bad low high w hb)
  have d1 : decide (200 < wrap64 (high - low)) = false := decide_eq_false hq
  have e0 : decide (low < 1) = true := decide_eq_true (by omega)
  clear hq hb k0
  clear hn
  go_enter Try.func8, Try.ntmps8
  go_wp2_with (first | (go_at_call 45; refine HC.out.mono ?_; rintro e w1 ⟨rfl, rfl⟩) | (go_at_call 46; refine (code_calls _ _).mono ?_; rintro e w9 ⟨rfl, rfl⟩) | (go_at_call 44; refine (live_calls _).mono ?_; rintro e w8 ⟨rfl, hB⟩; have HB8 := Aside0.mk hB; clear hB))
  go_ret
  exact ⟨rfl, HB8.out⟩
set_option maxRecDepth 100000 in
set_option maxHeartbeats 60000000 in
theorem plays_bad01 (low high : Int) (A1 : Option Addr) (nn c1 : Nat) (w : World) (hn : nn ≤ 100) (hb : low < 1 ∨ high < low ∨ 65535 < high) (hq : ¬ 200 < wrap64 (high - low)) (k0 : ¬ low < 1) (k1 : high < low) :
    Calls Try.prog 8 #[.int .i64 low, .int .i64 high, .slice A1 nn c1] w fun e w' => e = .returned (.bool true) ∧ Below w.heap.size w w' := by
  have d0 : decide (100 < (nn : Int)) = false := decide_eq_false (by omega)
  have d0' : decide (100 < nn) = false := decide_eq_false (by omega)
  have HC := Aside0.mk (new_bad low high w hb)
  have d1 : decide (200 < wrap64 (high - low)) = false := decide_eq_false hq
  have e0 : decide (low < 1) = false := decide_eq_false (by omega)
  have e1 : decide (high < low) = true := decide_eq_true (by omega)
  clear hq hb k0 k1
  clear hn
  go_enter Try.func8, Try.ntmps8
  go_wp2_with (first | (go_at_call 45; refine HC.out.mono ?_; rintro e w1 ⟨rfl, rfl⟩) | (go_at_call 46; refine (code_calls _ _).mono ?_; rintro e w9 ⟨rfl, rfl⟩) | (go_at_call 44; refine (live_calls _).mono ?_; rintro e w8 ⟨rfl, hB⟩; have HB8 := Aside0.mk hB; clear hB))
  go_ret
  exact ⟨rfl, HB8.out⟩
set_option maxRecDepth 100000 in
set_option maxHeartbeats 60000000 in
theorem plays_bad02 (low high : Int) (A1 : Option Addr) (nn c1 : Nat) (w : World) (hn : nn ≤ 100) (hb : low < 1 ∨ high < low ∨ 65535 < high) (hq : ¬ 200 < wrap64 (high - low)) (k0 : ¬ low < 1) (k1 : ¬ high < low) :
    Calls Try.prog 8 #[.int .i64 low, .int .i64 high, .slice A1 nn c1] w fun e w' => e = .returned (.bool true) ∧ Below w.heap.size w w' := by
  have d0 : decide (100 < (nn : Int)) = false := decide_eq_false (by omega)
  have d0' : decide (100 < nn) = false := decide_eq_false (by omega)
  have HC := Aside0.mk (new_bad low high w hb)
  have d1 : decide (200 < wrap64 (high - low)) = false := decide_eq_false hq
  have e0 : decide (low < 1) = false := decide_eq_false (by omega)
  have e1 : decide (high < low) = false := decide_eq_false (by omega)
  have e2 : decide (65535 < high) = true := decide_eq_true (by omega)
  clear hq hb k0 k1
  clear hn
  go_enter Try.func8, Try.ntmps8
  go_wp2_with (first | (go_at_call 45; refine HC.out.mono ?_; rintro e w1 ⟨rfl, rfl⟩) | (go_at_call 46; refine (code_calls _ _).mono ?_; rintro e w9 ⟨rfl, rfl⟩) | (go_at_call 44; refine (live_calls _).mono ?_; rintro e w8 ⟨rfl, hB⟩; have HB8 := Aside0.mk hB; clear hB))
  go_ret
  exact ⟨rfl, HB8.out⟩
set_option maxRecDepth 100000 in
set_option maxHeartbeats 60000000 in
theorem plays_bad1 (low high : Int) (A1 : Option Addr) (nn c1 : Nat) (w : World) (hn : nn ≤ 100) (hb : low < 1 ∨ high < low ∨ 65535 < high) (hq : 200 < wrap64 (high - low)) (k0 : low < 1) :
    Calls Try.prog 8 #[.int .i64 low, .int .i64 high, .slice A1 nn c1] w fun e w' => e = .returned (.bool true) ∧ Below w.heap.size w w' := by
  have d0 : decide (100 < (nn : Int)) = false := decide_eq_false (by omega)
  have d0' : decide (100 < nn) = false := decide_eq_false (by omega)
  have HC := Aside0.mk (new_bad low high w hb)
  have d1 : decide (200 < wrap64 (high - low)) = true := decide_eq_true hq
  have d2 : decide (1 ≤ low) = false := decide_eq_false (by omega)
  have e0 : decide (low < 1) = true := decide_eq_true (by omega)
  clear hq hb k0
  clear hn
  go_enter Try.func8, Try.ntmps8
  go_wp2_with (first | (go_at_call 45; refine HC.out.mono ?_; rintro e w1 ⟨rfl, rfl⟩) | (go_at_call 46; refine (code_calls _ _).mono ?_; rintro e w9 ⟨rfl, rfl⟩) | (go_at_call 44; refine (live_calls _).mono ?_; rintro e w8 ⟨rfl, hB⟩; have HB8 := Aside0.mk hB; clear hB))
  go_ret
  exact ⟨rfl, HB8.out⟩
set_option maxRecDepth 100000 in
set_option maxHeartbeats 60000000 in
theorem plays_bad20 (low high : Int) (A1 : Option Addr) (nn c1 : Nat) (w : World) (hn : nn ≤ 100) (hb : low < 1 ∨ high < low ∨ 65535 < high) (hq : 200 < wrap64 (high - low)) (k0 : ¬ low < 1) (k1 : 65535 < high) (k2 : high < low) :
    Calls Try.prog 8 #[.int .i64 low, .int .i64 high, .slice A1 nn c1] w fun e w' => e = .returned (.bool true) ∧ Below w.heap.size w w' := by
  have d0 : decide (100 < (nn : Int)) = false := decide_eq_false (by omega)
  have d0' : decide (100 < nn) = false := decide_eq_false (by omega)
  have HC := Aside0.mk (new_bad low high w hb)
  have d1 : decide (200 < wrap64 (high - low)) = true := decide_eq_true hq
  have d2 : decide (1 ≤ low) = true := decide_eq_true (by omega)
  have d3 : decide (high ≤ 65535) = false := decide_eq_false (by omega)
  have e0 : decide (low < 1) = false := decide_eq_false (by omega)
  have e1 : decide (high < low) = true := decide_eq_true (by omega)
  clear hq hb k0 k1 k2
  clear hn
  go_enter Try.func8, Try.ntmps8
  go_wp2_with (first | (go_at_call 45; refine HC.out.mono ?_; rintro e w1 ⟨rfl, rfl⟩) | (go_at_call 46; refine (code_calls _ _).mono ?_; rintro e w9 ⟨rfl, rfl⟩) | (go_at_call 44; refine (live_calls _).mono ?_; rintro e w8 ⟨rfl, hB⟩; have HB8 := Aside0.mk hB; clear hB))
  go_ret
  exact ⟨rfl, HB8.out⟩
set_option maxRecDepth 100000 in
set_option maxHeartbeats 60000000 in
theorem plays_bad21 (low high : Int) (A1 : Option Addr) (nn c1 : Nat) (w : World) (hn : nn ≤ 100) (hb : low < 1 ∨ high < low ∨ 65535 < high) (hq : 200 < wrap64 (high - low)) (k0 : ¬ low < 1) (k1 : 65535 < high) (k2 : ¬ high < low) :
    Calls Try.prog 8 #[.int .i64 low, .int .i64 high, .slice A1 nn c1] w fun e w' => e = .returned (.bool true) ∧ Below w.heap.size w w' := by
  have d0 : decide (100 < (nn : Int)) = false := decide_eq_false (by omega)
  have d0' : decide (100 < nn) = false := decide_eq_false (by omega)
  have HC := Aside0.mk (new_bad low high w hb)
  have d1 : decide (200 < wrap64 (high - low)) = true := decide_eq_true hq
  have d2 : decide (1 ≤ low) = true := decide_eq_true (by omega)
  have d3 : decide (high ≤ 65535) = false := decide_eq_false (by omega)
  have e0 : decide (low < 1) = false := decide_eq_false (by omega)
  have e1 : decide (high < low) = false := decide_eq_false (by omega)
  have e2 : decide (65535 < high) = true := decide_eq_true (by omega)
  clear hq hb k0 k1 k2
  clear hn
  go_enter Try.func8, Try.ntmps8
  go_wp2_with (first | (go_at_call 45; refine HC.out.mono ?_; rintro e w1 ⟨rfl, rfl⟩) | (go_at_call 46; refine (code_calls _ _).mono ?_; rintro e w9 ⟨rfl, rfl⟩) | (go_at_call 44; refine (live_calls _).mono ?_; rintro e w8 ⟨rfl, hB⟩; have HB8 := Aside0.mk hB; clear hB))
  go_ret
  exact ⟨rfl, HB8.out⟩
set_option maxRecDepth 100000 in
set_option maxHeartbeats 60000000 in
theorem plays_good (low high : Int) (A1 : Option Addr) (nn c1 : Nat) (w : World) (h : Acts9 w A1 nn) (hn : nn ≤ 100) (hq : ¬ (200 < wrap64 (high - low) ∧ 1 ≤ low ∧ high ≤ 65535)) (h0 : 1 ≤ low) (h1 : low ≤ high) (h2 : high ≤ 65535) :
    Calls Try.prog 8 #[.int .i64 low, .int .i64 high, .slice A1 nn c1] w fun e w' => e = .returned (.bool true) ∧ Below w.heap.size w w' := by
  have d0 : decide (100 < (nn : Int)) = false := decide_eq_false (by omega)
  have d0' : decide (100 < nn) = false := decide_eq_false (by omega)
  have HC := Aside0.mk (new_good low high w h0 h1 h2)
  have HD := Aside0.mk (And.intro h0 (And.intro h1 h2))
  have HA := Aside0.mk h
  have HN := Aside0.mk hn
  have d1 : decide (200 < wrap64 (high - low)) = false := decide_eq_false (fun e => hq ⟨e, h0, h2⟩)
  clear h hn h0 h1 h2 hq
  go_enter Try.func8, Try.ntmps8
  · have hd := HD.out
    have e0 : decide (low < 1) = false := decide_eq_false (by omega)
    have e1 : decide (high < low) = false := decide_eq_false (by omega)
    have e2 : decide (65535 < high) = false := decide_eq_false (by omega)
    clear hd
    go_upto_region 9 with (first | (go_at_call 45; refine HC.out.mono ?_; rintro e w1 ⟨b, mb, ma, mj, rfl, hT, hB⟩; have HT0 := Aside0.mk hT; have HB0 := Aside0.mk hB; clear hT hB HC) | (go_at_call 46; refine (code_calls _ _).mono ?_; rintro e w9 ⟨rfl, rfl⟩) | (go_at_call 47; refine (rnew_calls _ _ _).mono ?_; rintro e w2 ⟨A, co, A', co', rfl, hR, hR', hB2⟩; unfold rt; have HP := Aside0.mk (pl_start HD.out.1 HD.out.2.1 HD.out.2.2 HT0.out HB0.out hR hR' hB2); clear hR hR' hB2))
    clear HT0 HB0 HD e0 e1 e2
    obtain ⟨G, hG⟩ : ∃ G, G = w2.heap.size := ⟨_, rfl⟩
    rw [← hG] at HP ⊢
    clear hG
    generalize w2.alloc (.cells #[.int .i64 low, .int .i64 high, .int .i64 high, .slice A 0 co, .slice A' 0 co'] 100) = w3 at HP ⊢
    go_wp2
    have HH : Aside0 (0 ≤ nn ∧ Pl w w3 b mb ma mj G) := ⟨Nat.zero_le _, HP.out⟩
    clear HP
    go_loopw [10] (fun i wr => ∃ k : Nat, i = .int .i64 k ∧ Aside0 (k ≤ nn ∧ Pl w wr b mb ma mj G)) (fun i _ => nn - num i)
    case atStart => exact ⟨0, rfl, HH⟩
    case round =>
      clear HH
      obtain ⟨k, rfl, ⟨hk, hO⟩⟩ := hrel
      have hnn := HN.out
      by_cases hlt : k < nn
      · have b0 : decide ((k : Int) < (nn : Int)) = true := decide_eq_true (by omega)
        have b1 : decide (k < nn) = true := decide_eq_true hlt
        have b2 : (k < nn) = True := eq_true hlt
        have b3 : ((k : Int) < (nn : Int)) = True := eq_true (by omega)
        have e1 : IntKind.i64.wrap ((k : Int) + 1) = (k : Int) + 1 := wid _ (by omega) (by omega)
        obtain ⟨ad, rfl, x, o, a, p, c, d, hact, hqq⟩ := HA.out k hlt
        obtain ⟨s, A, n, co, l, A', n', co', l', hPc⟩ := hO
        have HPC := Aside0.mk hPc
        have HT := Aside0.mk hact
        have HQ := Aside0.mk hqq
        have HK := Aside0.mk hlt
        clear hk hnn hlt hact hqq hPc
        go_upto_region 12 with (fail)
        refine start_ (n := 13) (S := fun w' => w'.heap[G]? = some (.cells #[.int .i64 s.low, .int .i64 s.high, .int .i64 s.last, .slice A n co, .slice A' n' co'] 100 (0, 0)) ∧ Act9 w' (ad.add (k * 6)) x o a p c d) (ds := [11]) (bb 13 0) (by kernel_rfl) rfl rfl (⟨HPC.out.box, HT.out.below (below_drew HPC.out.bl)⟩) (fun hHeld => ?_)
        replace HPC := Aside0.mk (HPC.out.below (below_drew (Below.refl _ _)))
        generalize World.drew _ = w5 at HPC hHeld ⊢
        refine pure_ (i := 0) (N := some 87) (v := ?_) (a' := ?_) (bb 13 1) rfl rfl (by kernel_rfl) (fun _ _ _ h => h) (Or.inl ⟨by rfl, ?_⟩) ?_ ?_
        rotate_left
        · intro w'
          go_simp
          with_reducible rfl
        rotate_left
        · simp only [Act.put, List.setIfInBounds_toArray, List.set_cons_zero, List.set_cons_succ, i64_w, i32_w]
          rfl
        refine take_ (i := 1) (N := some 88) (v := ?_) (a' := ?_) (bb 13 3) rfl rfl (by kernel_rfl) (fun _ _ _ h => h) (Or.inl ⟨by rfl, ?_⟩) hHeld ?_ ?_
        rotate_left
        · intro w' hSw
          obtain ⟨p0, p1, p2, p3, p4, -⟩ := five hSw.1
          obtain ⟨c0, c1, c2, c3, c4, c5⟩ := hSw.2
          go_simp
          with_reducible rfl
        rotate_left
        · simp only [Act.put, List.setIfInBounds_toArray, List.set_cons_zero, List.set_cons_succ, i64_w, i32_w]
          rfl
        refine pure_ (i := 2) (N := some 89) (v := ?_) (a' := ?_) (bb 13 7) rfl rfl (by kernel_rfl) (fun _ _ _ h => h) (Or.inl ⟨by rfl, ?_⟩) ?_ ?_
        rotate_left
        · intro w'
          go_simp
          with_reducible rfl
        rotate_left
        · simp only [Act.put, List.setIfInBounds_toArray, List.set_cons_zero, List.set_cons_succ, i64_w, i32_w]
          rfl
        refine pure_ (i := 3) (N := some 90) (v := ?_) (a' := ?_) (bb 13 15) rfl rfl (by kernel_rfl) (fun _ _ _ h => h) (Or.inl ⟨by rfl, ?_⟩) ?_ ?_
        rotate_left
        · intro w'
          go_simp
          with_reducible rfl
        rotate_left
        · simp only [Act.put, List.setIfInBounds_toArray, List.set_cons_zero, List.set_cons_succ, i64_w, i32_w]
          rfl
        refine pure_ (i := 4) (N := some 91) (v := ?_) (a' := ?_) (bb 13 31) rfl rfl (by kernel_rfl) (fun _ _ _ h => h) (Or.inl ⟨by rfl, ?_⟩) ?_ ?_
        rotate_left
        · intro w'
          go_simp
          with_reducible rfl
        rotate_left
        · simp only [Act.put, List.setIfInBounds_toArray, List.set_cons_zero, List.set_cons_succ, i64_w, i32_w]
          rfl
        refine take_ (i := 5) (N := some 92) (v := ?_) (a' := ?_) (bb 13 63) rfl rfl (by kernel_rfl) (fun _ _ _ h => h) (Or.inl ⟨by rfl, ?_⟩) hHeld ?_ ?_
        rotate_left
        · intro w' hSw
          obtain ⟨p0, p1, p2, p3, p4, -⟩ := five hSw.1
          obtain ⟨c0, c1, c2, c3, c4, c5⟩ := hSw.2
          go_simp
          with_reducible rfl
        rotate_left
        · simp only [Act.put, List.setIfInBounds_toArray, List.set_cons_zero, List.set_cons_succ, i64_w, i32_w]
          rfl
        refine two_ (i := 6) (j := 10) (Ni := some 93) (Nj := some 11) (bb 13 127) (bb 13 1087) rfl rfl rfl rfl (by kernel_rfl) (by decide) (by decide) (fun K hK => ?_) (fun K hK => ?_)
        · refine goes_ Try.func48 (by kernel_rfl) rfl #[.pointer (some ⟨b, 0, none⟩), rt s.low s.high s.last A n co A' n' co', .agg #[.int .i64 x, .int .i64 o, .int .u32 a, .int .u16 p, .int .u32 c, .int .u16 d]] (by rfl) rfl rfl (by (try simp only [List.map_toArray, List.map_cons, List.map_nil]); first | done | rfl | (go_simp; done) | (go_simp; omega)) ?_
          refine Calls.mono (step_any HPC.out.ok HPC.out.tb HPC.out.rb HPC.out.bl.size x o a p c d HQ.out) ?_
          rintro e w' ⟨s1, A1, n1, co1, l1, A1', n1', co1', l1', rfl, hS⟩
          refine ⟨_, rfl, ?_⟩
          replace HPC := Aside0.mk (HPC.out.step hS)
          clear hS
          unfold rt
          refine hK.out _ _ (⟨HPC.out.box, HT.out.below HPC.out.bl⟩) (fun hHeld => ?_)
          clear hK K
          refine norm_ (a' := ?_) ?_ ?_
          rotate_left
          · show Act.put _ (some 93) _ = _
            simp only [Act.put, List.setIfInBounds_toArray, List.set_cons_zero, List.set_cons_succ, i64_w, i32_w]
            rfl
          refine pure_ (i := 7) (N := some 86) (v := ?_) (a' := ?_) (bb 13 255) rfl rfl (by kernel_rfl) (fun _ _ _ h => h) (Or.inl ⟨by rfl, ?_⟩) ?_ ?_
          rotate_left
          · intro w'
            go_simp
            with_reducible rfl
          rotate_left
          · simp only [Act.put, List.setIfInBounds_toArray, List.set_cons_zero, List.set_cons_succ, i64_w, i32_w]
            rfl
          refine pure_ (i := 8) (N := some 94) (v := ?_) (a' := ?_) (bb 13 511) rfl rfl (by kernel_rfl) (fun _ _ _ h => h) (Or.inl ⟨by rfl, ?_⟩) ?_ ?_
          rotate_left
          · intro w'
            go_simp
            with_reducible rfl
          rotate_left
          · simp only [Act.put, List.setIfInBounds_toArray, List.set_cons_zero, List.set_cons_succ, i64_w, i32_w]
            rfl
          refine pure_ (i := 9) (N := some 95) (v := ?_) (a' := ?_) (bb 13 1023) rfl rfl (by kernel_rfl) (fun _ _ _ h => h) (Or.inl ⟨by rfl, ?_⟩) ?_ ?_
          rotate_left
          · intro w'
            go_simp
            with_reducible rfl
          rotate_left
          · simp only [Act.put, List.setIfInBounds_toArray, List.set_cons_zero, List.set_cons_succ, i64_w, i32_w]
            rfl
          refine one_ (i := 10) (N := some 11) (bb 13 2047) rfl rfl (by kernel_rfl) (by decide) (fun K hK => ?_)
          refine event_step (by rfl) (show _ = Result.ok (Next.value (.pointer (some ⟨w'.heap.size, 0, none⟩))) (World.alloc _ (.cells #[.int .i64 0, .int .i64 0, .int .i64 0, .slice none 0 0, .slice none 0 0] 100)) from by first | (go_simp; done) | (go_simp; rfl)) ?_
          have hB := below_alloc (Below.refl _ w') (.cells #[.int .i64 0, .int .i64 0, .int .i64 0, .slice none 0 0, .slice none 0 0] 100)
          have hN := blk_new w' (.cells #[.int .i64 0, .int .i64 0, .int .i64 0, .slice none 0 0, .slice none 0 0] 100)
          have hz1 := HPC.out.bl.size
          have hz2 := blk_lt HPC.out.box
          obtain ⟨g4, hg4⟩ : ∃ g4, g4 = w'.heap.size := ⟨_, rfl⟩
          have HG4 := Aside0.mk (show w.heap.size ≤ g4 ∧ G ≠ g4 by omega)
          rw [← hg4] at hN ⊢
          clear hz1 hz2 hg4
          generalize World.alloc w' (.cells #[.int .i64 0, .int .i64 0, .int .i64 0, .slice none 0 0, .slice none 0 0] 100) = w5_ at hB hN ⊢
          have HN4 := Aside0.mk hN
          replace HPC := Aside0.mk (HPC.out.below hB)
          clear hB hN
          refine hK.out _ _ (⟨HPC.out.box, HT.out.below HPC.out.bl⟩) (fun hHeld => ?_)
          clear hK K
          refine norm_ (a' := ?_) ?_ ?_
          rotate_left
          · show Act.put _ (some 11) _ = _
            simp only [Act.put, List.setIfInBounds_toArray, List.set_cons_zero, List.set_cons_succ, i64_w, i32_w]
            rfl
          refine last_ (i := 11) (N := none) (bb 13 4095) rfl rfl (by kernel_rfl) (by decide) (fun K hK => ?_)
          obtain ⟨w6, hw6⟩ : ∃ w6, w6 = w5_ := ⟨_, rfl⟩
          rw [← hw6] at HPC HN4 ⊢
          clear hw6 hHeld
          obtain ⟨q0, q1, q2, q3, q4, s0_, s1_, s2_, s3_, s4_⟩ := five HN4.out
          refine skip_ (w1 := ((((w6.setCell ⟨g4, 0, none⟩ (.int .i64 s1.low)).setCell ⟨g4, 1, none⟩ (.int .i64 s1.high)).setCell ⟨g4, 2, none⟩ (.int .i64 s1.last)).setCell ⟨g4, 3, none⟩ (.slice A1 n1 co1)).setCell ⟨g4, 4, none⟩ (.slice A1' n1' co1')) (by rfl) rfl (by first | (go_simp; done) | (go_simp; rfl)) ?_
          refine hK.out _ _ ?_
          clear hK K
          refine pure_ (i := 12) (N := some 12) (v := ?_) (a' := ?_) (bb 13 8191) rfl rfl (by kernel_rfl) (fun _ _ _ h => h) (Or.inl ⟨by rfl, ?_⟩) ?_ ?_
          rotate_left
          · intro w'
            go_simp
            with_reducible rfl
          rotate_left
          · simp only [Act.put, List.setIfInBounds_toArray, List.set_cons_zero, List.set_cons_succ, i64_w, i32_w]
            rfl
          refine done_ (by kernel_rfl) ?_
          have HN5 := Aside0.mk (five_put HN4.out (.int .i64 s1.low) (.int .i64 s1.high) (.int .i64 s1.last) (.slice A1 n1 co1) (.slice A1' n1' co1'))
          replace HPC := Aside0.mk (HPC.out.far HN4.out HG4.out.1 HG4.out.2 (.int .i64 s1.low) (.int .i64 s1.high) (.int .i64 s1.last) (.slice A1 n1 co1) (.slice A1' n1' co1'))
          unfold put5 at HN5 HPC
          clear q0 q1 q2 q3 q4 s0_ s1_ s2_ s3_ s4_ HN4
          generalize ((((w6.setCell ⟨g4, 0, none⟩ (.int .i64 s1.low)).setCell ⟨g4, 1, none⟩ (.int .i64 s1.high)).setCell ⟨g4, 2, none⟩ (.int .i64 s1.last)).setCell ⟨g4, 3, none⟩ (.slice A1 n1 co1)).setCell ⟨g4, 4, none⟩ (.slice A1' n1' co1') = w7 at HPC HN5 ⊢
          obtain ⟨q0, q1, q2, q3, q4, -⟩ := five HN5.out
          obtain ⟨p0, p1, p2, p3, p4, s0_, s1_, s2_, s3_, s4_⟩ := five HPC.out.box
          go_upto_region 14 with (fail)
          replace HPC := Aside0.mk (HPC.out.put (.int .i64 s1.low) (.int .i64 s1.high) (.int .i64 s1.last) (.slice A1 n1 co1) (.slice A1' n1' co1'))
          clear p0 p1 p2 p3 p4 s0_ s1_ s2_ s3_ s4_ q0 q1 q2 q3 q4 HN5
          unfold put5 at HPC
          generalize ((((w7.setCell ⟨G, 0, none⟩ (.int .i64 s1.low)).setCell ⟨G, 1, none⟩ (.int .i64 s1.high)).setCell ⟨G, 2, none⟩ (.int .i64 s1.last)).setCell ⟨G, 3, none⟩ (.slice A1 n1 co1)).setCell ⟨G, 4, none⟩ (.slice A1' n1' co1') = w9_ at HPC ⊢
          obtain ⟨c0, c1, c2, c3, c4, c5⟩ := HT.out.below HPC.out.bl
          go_upto_region 17 with (fail)
          clear c0 c1 c2 c3 c4 c5
          have hN := blk_new w9_ (.cells #[.int .u32 a, .int .u16 p, .int .u32 c, .int .u16 d] 107)
          replace HPC := Aside0.mk (HPC.out.below (below_alloc (Below.refl _ _) (.cells #[.int .u32 a, .int .u16 p, .int .u32 c, .int .u16 d] 107)))
          obtain ⟨g13, hg13⟩ : ∃ g13, g13 = w9_.heap.size := ⟨_, rfl⟩
          rw [← hg13] at hN ⊢
          clear hg13
          generalize w9_.alloc (.cells #[.int .u32 a, .int .u16 p, .int .u32 c, .int .u16 d] 107) = w12 at HPC hN ⊢
          have HN13 := Aside0.mk hN
          clear hN
          obtain ⟨O1, O2, Y1, Y2, W1, J, I, hlk, hlc⟩ := looks w.heap.size b mb ma mj HPC.out.ok HQ.out
          have HL := Aside0.mk hlk
          have HLC := Aside0.mk hlc
          clear hlk hlc
          obtain ⟨p0, p1, p2, p3, p4, -⟩ := five HPC.out.box
          have q0 := (blk_cell HN13.out 0).trans rfl
          have q1 := (blk_cell HN13.out 1).trans rfl
          have q2 := (blk_cell HN13.out 2).trans rfl
          have q3 := (blk_cell HN13.out 3).trans rfl
          go_upto_region 22 with (first | (go_at_call 49; refine (HL.out.own _ HPC.out.tb).mono ?_; rintro e w11 ⟨rfl, hb⟩; replace HPC := Aside0.mk (HPC.out.below hb); replace HN13 := Aside0.mk (blk_below HN13.out hb); clear hb p0 p1 p2 p3 p4 q0 q1 q2 q3; obtain ⟨p0, p1, p2, p3, p4, -⟩ := five HPC.out.box; have q0 := (blk_cell HN13.out 0).trans rfl; have q1 := (blk_cell HN13.out 1).trans rfl; have q2 := (blk_cell HN13.out 2).trans rfl; have q3 := (blk_cell HN13.out 3).trans rfl) | (go_at_call 50; refine (HL.out.rown _ _ _ _ _ _ _ HPC.out.rb).mono ?_; rintro e w11 ⟨rfl, hb⟩; replace HPC := Aside0.mk (HPC.out.below hb); replace HN13 := Aside0.mk (blk_below HN13.out hb); clear hb p0 p1 p2 p3 p4 q0 q1 q2 q3; obtain ⟨p0, p1, p2, p3, p4, -⟩ := five HPC.out.box; have q0 := (blk_cell HN13.out 0).trans rfl; have q1 := (blk_cell HN13.out 1).trans rfl; have q2 := (blk_cell HN13.out 2).trans rfl; have q3 := (blk_cell HN13.out 3).trans rfl) | (go_at_call 51; refine (HL.out.talk _ HPC.out.tb).mono ?_; rintro e w11 ⟨rfl, hb⟩; replace HPC := Aside0.mk (HPC.out.below hb); replace HN13 := Aside0.mk (blk_below HN13.out hb); clear hb p0 p1 p2 p3 p4 q0 q1 q2 q3; obtain ⟨p0, p1, p2, p3, p4, -⟩ := five HPC.out.box; have q0 := (blk_cell HN13.out 0).trans rfl; have q1 := (blk_cell HN13.out 1).trans rfl; have q2 := (blk_cell HN13.out 2).trans rfl; have q3 := (blk_cell HN13.out 3).trans rfl) | (go_at_call 52; refine (HL.out.rtalk _ _ _ _ _ _ _ HPC.out.rb).mono ?_; rintro e w11 ⟨rfl, hb⟩; replace HPC := Aside0.mk (HPC.out.below hb); replace HN13 := Aside0.mk (blk_below HN13.out hb); clear hb p0 p1 p2 p3 p4 q0 q1 q2 q3; obtain ⟨p0, p1, p2, p3, p4, -⟩ := five HPC.out.box; have q0 := (blk_cell HN13.out 0).trans rfl; have q1 := (blk_cell HN13.out 1).trans rfl; have q2 := (blk_cell HN13.out 2).trans rfl; have q3 := (blk_cell HN13.out 3).trans rfl) | (go_at_call 53; refine (HL.out.find _ HPC.out.tb).mono ?_; rintro e w11 ⟨rfl, hb⟩; replace HPC := Aside0.mk (HPC.out.below hb); replace HN13 := Aside0.mk (blk_below HN13.out hb); clear hb p0 p1 p2 p3 p4 q0 q1 q2 q3; obtain ⟨p0, p1, p2, p3, p4, -⟩ := five HPC.out.box; have q0 := (blk_cell HN13.out 0).trans rfl; have q1 := (blk_cell HN13.out 1).trans rfl; have q2 := (blk_cell HN13.out 2).trans rfl; have q3 := (blk_cell HN13.out 3).trans rfl))
          clear p0 p1 p2 p3 p4 q0 q1 q2 q3
          have u1 : (O1 != O1) = false := bne_self_eq_false _
          have u2 : (Y1 != Y1) = false := bne_self_eq_false _
          have hlc := HLC.out
          clear HLC HL
          obtain ⟨rfl, rfl, rfl, rfl⟩ | ⟨rfl, rfl, rfl, rfl⟩ := hlc
          · cases O2
            · go_wp2
              go_roundw
              case rel => exact ⟨k + 1, by go_num, ⟨HK.out, s1, A1, n1, co1, l1, A1', n1', co1', l1', HPC.out⟩⟩
              case measure => simp only [num]; have := HK.out; omega
            · go_wp2
              go_roundw
              case rel => exact ⟨k + 1, by go_num, ⟨HK.out, s1, A1, n1, co1, l1, A1', n1', co1', l1', HPC.out⟩⟩
              case measure => simp only [num]; have := HK.out; omega
          · cases I
            · go_wp2
              go_roundw
              case rel => exact ⟨k + 1, by go_num, ⟨HK.out, s1, A1, n1, co1, l1, A1', n1', co1', l1', HPC.out⟩⟩
              case measure => simp only [num]; have := HK.out; omega
            · go_wp2
              go_roundw
              case rel => exact ⟨k + 1, by go_num, ⟨HK.out, s1, A1, n1, co1, l1, A1', n1', co1', l1', HPC.out⟩⟩
              case measure => simp only [num]; have := HK.out; omega
        · refine event_step (by rfl) (show _ = Result.ok (Next.value (.pointer (some ⟨w5.heap.size, 0, none⟩))) (World.alloc _ (.cells #[.int .i64 0, .int .i64 0, .int .i64 0, .slice none 0 0, .slice none 0 0] 100)) from by first | (go_simp; done) | (go_simp; rfl)) ?_
          have hB := below_alloc (Below.refl _ w5) (.cells #[.int .i64 0, .int .i64 0, .int .i64 0, .slice none 0 0, .slice none 0 0] 100)
          have hN := blk_new w5 (.cells #[.int .i64 0, .int .i64 0, .int .i64 0, .slice none 0 0, .slice none 0 0] 100)
          have hz1 := HPC.out.bl.size
          have hz2 := blk_lt HPC.out.box
          obtain ⟨g4, hg4⟩ : ∃ g4, g4 = w5.heap.size := ⟨_, rfl⟩
          have HG4 := Aside0.mk (show w.heap.size ≤ g4 ∧ G ≠ g4 by omega)
          rw [← hg4] at hN ⊢
          clear hz1 hz2 hg4
          generalize World.alloc w5 (.cells #[.int .i64 0, .int .i64 0, .int .i64 0, .slice none 0 0, .slice none 0 0] 100) = w5_ at hB hN ⊢
          have HN4 := Aside0.mk hN
          replace HPC := Aside0.mk (HPC.out.below hB)
          clear hB hN
          refine hK.out _ _ (⟨HPC.out.box, HT.out.below HPC.out.bl⟩) (fun hHeld => ?_)
          clear hK K
          refine norm_ (a' := ?_) ?_ ?_
          rotate_left
          · show Act.put _ (some 11) _ = _
            simp only [Act.put, List.setIfInBounds_toArray, List.set_cons_zero, List.set_cons_succ, i64_w, i32_w]
            rfl
          refine one_ (i := 6) (N := some 93) (bb 13 1151) rfl rfl (by kernel_rfl) (by decide) (fun K hK => ?_)
          refine goes_ Try.func48 (by kernel_rfl) rfl #[.pointer (some ⟨b, 0, none⟩), rt s.low s.high s.last A n co A' n' co', .agg #[.int .i64 x, .int .i64 o, .int .u32 a, .int .u16 p, .int .u32 c, .int .u16 d]] (by rfl) rfl rfl (by (try simp only [List.map_toArray, List.map_cons, List.map_nil]); first | done | rfl | (go_simp; done) | (go_simp; omega)) ?_
          refine Calls.mono (step_any HPC.out.ok HPC.out.tb HPC.out.rb HPC.out.bl.size x o a p c d HQ.out) ?_
          rintro e w' ⟨s1, A1, n1, co1, l1, A1', n1', co1', l1', rfl, hS⟩
          refine ⟨_, rfl, ?_⟩
          replace HN4 := Aside0.mk (hS.2.2.2.box HPC.out.tb HN4.out (by decide))
          replace HPC := Aside0.mk (HPC.out.step hS)
          clear hS
          unfold rt
          refine hK.out _ _ (⟨HPC.out.box, HT.out.below HPC.out.bl⟩) (fun hHeld => ?_)
          clear hK K
          refine norm_ (a' := ?_) ?_ ?_
          rotate_left
          · show Act.put _ (some 93) _ = _
            simp only [Act.put, List.setIfInBounds_toArray, List.set_cons_zero, List.set_cons_succ, i64_w, i32_w]
            rfl
          refine pure_ (i := 7) (N := some 86) (v := ?_) (a' := ?_) (bb 13 1279) rfl rfl (by kernel_rfl) (fun _ _ _ h => h) (Or.inl ⟨by rfl, ?_⟩) ?_ ?_
          rotate_left
          · intro w'
            go_simp
            with_reducible rfl
          rotate_left
          · simp only [Act.put, List.setIfInBounds_toArray, List.set_cons_zero, List.set_cons_succ, i64_w, i32_w]
            rfl
          refine pure_ (i := 8) (N := some 94) (v := ?_) (a' := ?_) (bb 13 1535) rfl rfl (by kernel_rfl) (fun _ _ _ h => h) (Or.inl ⟨by rfl, ?_⟩) ?_ ?_
          rotate_left
          · intro w'
            go_simp
            with_reducible rfl
          rotate_left
          · simp only [Act.put, List.setIfInBounds_toArray, List.set_cons_zero, List.set_cons_succ, i64_w, i32_w]
            rfl
          refine pure_ (i := 9) (N := some 95) (v := ?_) (a' := ?_) (bb 13 2047) rfl rfl (by kernel_rfl) (fun _ _ _ h => h) (Or.inl ⟨by rfl, ?_⟩) ?_ ?_
          rotate_left
          · intro w'
            go_simp
            with_reducible rfl
          rotate_left
          · simp only [Act.put, List.setIfInBounds_toArray, List.set_cons_zero, List.set_cons_succ, i64_w, i32_w]
            rfl
          refine last_ (i := 11) (N := none) (bb 13 4095) rfl rfl (by kernel_rfl) (by decide) (fun K hK => ?_)
          obtain ⟨w6, hw6⟩ : ∃ w6, w6 = w' := ⟨_, rfl⟩
          rw [← hw6] at HPC HN4 ⊢
          clear hw6 hHeld
          obtain ⟨q0, q1, q2, q3, q4, s0_, s1_, s2_, s3_, s4_⟩ := five HN4.out
          refine skip_ (w1 := ((((w6.setCell ⟨g4, 0, none⟩ (.int .i64 s1.low)).setCell ⟨g4, 1, none⟩ (.int .i64 s1.high)).setCell ⟨g4, 2, none⟩ (.int .i64 s1.last)).setCell ⟨g4, 3, none⟩ (.slice A1 n1 co1)).setCell ⟨g4, 4, none⟩ (.slice A1' n1' co1')) (by rfl) rfl (by first | (go_simp; done) | (go_simp; rfl)) ?_
          refine hK.out _ _ ?_
          clear hK K
          refine pure_ (i := 12) (N := some 12) (v := ?_) (a' := ?_) (bb 13 8191) rfl rfl (by kernel_rfl) (fun _ _ _ h => h) (Or.inl ⟨by rfl, ?_⟩) ?_ ?_
          rotate_left
          · intro w'
            go_simp
            with_reducible rfl
          rotate_left
          · simp only [Act.put, List.setIfInBounds_toArray, List.set_cons_zero, List.set_cons_succ, i64_w, i32_w]
            rfl
          refine done_ (by kernel_rfl) ?_
          have HN5 := Aside0.mk (five_put HN4.out (.int .i64 s1.low) (.int .i64 s1.high) (.int .i64 s1.last) (.slice A1 n1 co1) (.slice A1' n1' co1'))
          replace HPC := Aside0.mk (HPC.out.far HN4.out HG4.out.1 HG4.out.2 (.int .i64 s1.low) (.int .i64 s1.high) (.int .i64 s1.last) (.slice A1 n1 co1) (.slice A1' n1' co1'))
          unfold put5 at HN5 HPC
          clear q0 q1 q2 q3 q4 s0_ s1_ s2_ s3_ s4_ HN4
          generalize ((((w6.setCell ⟨g4, 0, none⟩ (.int .i64 s1.low)).setCell ⟨g4, 1, none⟩ (.int .i64 s1.high)).setCell ⟨g4, 2, none⟩ (.int .i64 s1.last)).setCell ⟨g4, 3, none⟩ (.slice A1 n1 co1)).setCell ⟨g4, 4, none⟩ (.slice A1' n1' co1') = w7 at HPC HN5 ⊢
          obtain ⟨q0, q1, q2, q3, q4, -⟩ := five HN5.out
          obtain ⟨p0, p1, p2, p3, p4, s0_, s1_, s2_, s3_, s4_⟩ := five HPC.out.box
          go_upto_region 14 with (fail)
          replace HPC := Aside0.mk (HPC.out.put (.int .i64 s1.low) (.int .i64 s1.high) (.int .i64 s1.last) (.slice A1 n1 co1) (.slice A1' n1' co1'))
          clear p0 p1 p2 p3 p4 s0_ s1_ s2_ s3_ s4_ q0 q1 q2 q3 q4 HN5
          unfold put5 at HPC
          generalize ((((w7.setCell ⟨G, 0, none⟩ (.int .i64 s1.low)).setCell ⟨G, 1, none⟩ (.int .i64 s1.high)).setCell ⟨G, 2, none⟩ (.int .i64 s1.last)).setCell ⟨G, 3, none⟩ (.slice A1 n1 co1)).setCell ⟨G, 4, none⟩ (.slice A1' n1' co1') = w9_ at HPC ⊢
          obtain ⟨c0, c1, c2, c3, c4, c5⟩ := HT.out.below HPC.out.bl
          go_upto_region 17 with (fail)
          clear c0 c1 c2 c3 c4 c5
          have hN := blk_new w9_ (.cells #[.int .u32 a, .int .u16 p, .int .u32 c, .int .u16 d] 107)
          replace HPC := Aside0.mk (HPC.out.below (below_alloc (Below.refl _ _) (.cells #[.int .u32 a, .int .u16 p, .int .u32 c, .int .u16 d] 107)))
          obtain ⟨g13, hg13⟩ : ∃ g13, g13 = w9_.heap.size := ⟨_, rfl⟩
          rw [← hg13] at hN ⊢
          clear hg13
          generalize w9_.alloc (.cells #[.int .u32 a, .int .u16 p, .int .u32 c, .int .u16 d] 107) = w12 at HPC hN ⊢
          have HN13 := Aside0.mk hN
          clear hN
          obtain ⟨O1, O2, Y1, Y2, W1, J, I, hlk, hlc⟩ := looks w.heap.size b mb ma mj HPC.out.ok HQ.out
          have HL := Aside0.mk hlk
          have HLC := Aside0.mk hlc
          clear hlk hlc
          obtain ⟨p0, p1, p2, p3, p4, -⟩ := five HPC.out.box
          have q0 := (blk_cell HN13.out 0).trans rfl
          have q1 := (blk_cell HN13.out 1).trans rfl
          have q2 := (blk_cell HN13.out 2).trans rfl
          have q3 := (blk_cell HN13.out 3).trans rfl
          go_upto_region 22 with (first | (go_at_call 49; refine (HL.out.own _ HPC.out.tb).mono ?_; rintro e w11 ⟨rfl, hb⟩; replace HPC := Aside0.mk (HPC.out.below hb); replace HN13 := Aside0.mk (blk_below HN13.out hb); clear hb p0 p1 p2 p3 p4 q0 q1 q2 q3; obtain ⟨p0, p1, p2, p3, p4, -⟩ := five HPC.out.box; have q0 := (blk_cell HN13.out 0).trans rfl; have q1 := (blk_cell HN13.out 1).trans rfl; have q2 := (blk_cell HN13.out 2).trans rfl; have q3 := (blk_cell HN13.out 3).trans rfl) | (go_at_call 50; refine (HL.out.rown _ _ _ _ _ _ _ HPC.out.rb).mono ?_; rintro e w11 ⟨rfl, hb⟩; replace HPC := Aside0.mk (HPC.out.below hb); replace HN13 := Aside0.mk (blk_below HN13.out hb); clear hb p0 p1 p2 p3 p4 q0 q1 q2 q3; obtain ⟨p0, p1, p2, p3, p4, -⟩ := five HPC.out.box; have q0 := (blk_cell HN13.out 0).trans rfl; have q1 := (blk_cell HN13.out 1).trans rfl; have q2 := (blk_cell HN13.out 2).trans rfl; have q3 := (blk_cell HN13.out 3).trans rfl) | (go_at_call 51; refine (HL.out.talk _ HPC.out.tb).mono ?_; rintro e w11 ⟨rfl, hb⟩; replace HPC := Aside0.mk (HPC.out.below hb); replace HN13 := Aside0.mk (blk_below HN13.out hb); clear hb p0 p1 p2 p3 p4 q0 q1 q2 q3; obtain ⟨p0, p1, p2, p3, p4, -⟩ := five HPC.out.box; have q0 := (blk_cell HN13.out 0).trans rfl; have q1 := (blk_cell HN13.out 1).trans rfl; have q2 := (blk_cell HN13.out 2).trans rfl; have q3 := (blk_cell HN13.out 3).trans rfl) | (go_at_call 52; refine (HL.out.rtalk _ _ _ _ _ _ _ HPC.out.rb).mono ?_; rintro e w11 ⟨rfl, hb⟩; replace HPC := Aside0.mk (HPC.out.below hb); replace HN13 := Aside0.mk (blk_below HN13.out hb); clear hb p0 p1 p2 p3 p4 q0 q1 q2 q3; obtain ⟨p0, p1, p2, p3, p4, -⟩ := five HPC.out.box; have q0 := (blk_cell HN13.out 0).trans rfl; have q1 := (blk_cell HN13.out 1).trans rfl; have q2 := (blk_cell HN13.out 2).trans rfl; have q3 := (blk_cell HN13.out 3).trans rfl) | (go_at_call 53; refine (HL.out.find _ HPC.out.tb).mono ?_; rintro e w11 ⟨rfl, hb⟩; replace HPC := Aside0.mk (HPC.out.below hb); replace HN13 := Aside0.mk (blk_below HN13.out hb); clear hb p0 p1 p2 p3 p4 q0 q1 q2 q3; obtain ⟨p0, p1, p2, p3, p4, -⟩ := five HPC.out.box; have q0 := (blk_cell HN13.out 0).trans rfl; have q1 := (blk_cell HN13.out 1).trans rfl; have q2 := (blk_cell HN13.out 2).trans rfl; have q3 := (blk_cell HN13.out 3).trans rfl))
          clear p0 p1 p2 p3 p4 q0 q1 q2 q3
          have u1 : (O1 != O1) = false := bne_self_eq_false _
          have u2 : (Y1 != Y1) = false := bne_self_eq_false _
          have hlc := HLC.out
          clear HLC HL
          obtain ⟨rfl, rfl, rfl, rfl⟩ | ⟨rfl, rfl, rfl, rfl⟩ := hlc
          · cases O2
            · go_wp2
              go_roundw
              case rel => exact ⟨k + 1, by go_num, ⟨HK.out, s1, A1, n1, co1, l1, A1', n1', co1', l1', HPC.out⟩⟩
              case measure => simp only [num]; have := HK.out; omega
            · go_wp2
              go_roundw
              case rel => exact ⟨k + 1, by go_num, ⟨HK.out, s1, A1, n1, co1, l1, A1', n1', co1', l1', HPC.out⟩⟩
              case measure => simp only [num]; have := HK.out; omega
          · cases I
            · go_wp2
              go_roundw
              case rel => exact ⟨k + 1, by go_num, ⟨HK.out, s1, A1, n1, co1, l1, A1', n1', co1', l1', HPC.out⟩⟩
              case measure => simp only [num]; have := HK.out; omega
            · go_wp2
              go_roundw
              case rel => exact ⟨k + 1, by go_num, ⟨HK.out, s1, A1, n1, co1, l1, A1', n1', co1', l1', HPC.out⟩⟩
              case measure => simp only [num]; have := HK.out; omega
      · have b0 : decide ((k : Int) < (nn : Int)) = false := decide_eq_false (by omega)
        have b1 : decide (k < nn) = false := decide_eq_false hlt
        have HB := Aside0.mk hO.bl
        clear hk hnn hlt hO
        go_wp2_with (go_at_call 44; refine (live_calls _).mono ?_; rintro e w8 ⟨rfl, hB⟩; replace HB := Aside0.mk (below_step HB.out hB); clear hB)
        go_ret
        exact ⟨rfl, HB.out⟩
theorem towropelaw18_PortPlays.calls (low high : Int) (A1 : Option Addr) (nn c1 : Nat) (w : World) (h : Acts9 w A1 nn) :
    Calls Try.prog 8 #[.int .i64 low, .int .i64 high, .slice A1 nn c1] w fun e w' => e = .returned (.bool true) ∧ Below w.heap.size w w' := by
  by_cases hn : 100 < nn
  · exact plays_many low high A1 nn c1 w hn
  · have hn := Nat.le_of_not_lt hn
    by_cases hq : 200 < wrap64 (high - low) ∧ 1 ≤ low ∧ high ≤ 65535
    · exact plays_wide low high A1 nn c1 w hn hq.1 hq.2.1 hq.2.2
    · by_cases hg : 1 ≤ low ∧ low ≤ high ∧ high ≤ 65535
      · exact plays_good low high A1 nn c1 w h hn hq hg.1 hg.2.1 hg.2.2
      · have hb : low < 1 ∨ high < low ∨ 65535 < high := by omega
        by_cases q0 : 200 < wrap64 (high - low)
        · by_cases q1 : low < 1
          · exact plays_bad1 low high A1 nn c1 w hn hb q0 q1
          · have q2 : 65535 < high := Int.lt_of_not_ge (fun e => hq ⟨q0, by omega, e⟩)
            by_cases q3 : high < low
            · exact plays_bad20 low high A1 nn c1 w hn hb q0 q1 q2 q3
            · exact plays_bad21 low high A1 nn c1 w hn hb q0 q1 q2 q3
        · by_cases q1 : low < 1
          · exact plays_bad00 low high A1 nn c1 w hn hb q0 q1
          · by_cases q3 : high < low
            · exact plays_bad01 low high A1 nn c1 w hn hb q0 q1 q3
            · exact plays_bad02 low high A1 nn c1 w hn hb q0 q1 q3
end Go.Proofs.Ytimgfdkndlbfbaa.PPortL
