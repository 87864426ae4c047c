/- hose: what grow and Write do, for every hose. Conditions: each theorem's own. -/
import Derived.Test.YtfmfpofbefgbgaaHHose
import Derived.LoopTactic
namespace Go.Proofs.Ytfmfpofbefgbgaa.HHose
open Go.RowKit Go.Proofs.YtfmfpofbefgbgaaW.PrintWords Go.Proofs.YtfmfpofbefgbgaaW.PrintLast Go.Proofs.YtfmfpofbefgbgaaW.PrintMore Go.Proofs.Ytfmfpofbefgbgaa.HExt Go.Proofs.Ytfmfpofbefgbgaa.HCopy Go.Proofs.Ytfmfpofbefgbgaa.HRing
set_option linter.unusedVariables false
set_option linter.unusedSimpArgs false
set_option maxRecDepth 100000 in
set_option maxHeartbeats 2000000 in
theorem grow_not {B b : Nat} {v : Value} {zs : List Int} {room : Int} {f n : Nat} {i o : Int} {w : World} (h : Hz B w b v zs room f n i o) (m : Nat) (hm : m ≤ zs.length) :
    Calls Try.prog 64 #[.pointer (some ⟨b, 0, none⟩), .int .i64 (m : Int)] w fun e w' => (∃ u, e = .returned u) ∧ w = w' := by
  obtain ⟨A, c, rfl, hc, hC⟩ := Kd.R_reads h.row
  obtain ⟨h0, h1, h2, h3, h4, h5⟩ := h.cells
  have d1 : decide ((m : Int) ≤ (zs.length : Int)) = true := decide_eq_true (by omega)
  have d2 : decide (m ≤ zs.length) = true := decide_eq_true hm
  clear h hc hC hm
  go_enter Try.func64, Try.ntmps64
  go_wp2
  refine bodyPost_ret (results_none rfl _ _ _) rfl ?_
  exact ⟨⟨_, rfl⟩, rfl⟩
set_option maxRecDepth 100000 in
set_option maxHeartbeats 2000000 in
theorem grow_new {B b : Nat} {v : Value} {zs : List Int} {room : Int} {f n : Nat} {i o : Int} {w : World} (h : Hz B w b v zs room f n i o) (hB : B ≤ w.heap.size) (m : Nat) (hm : zs.length < m) (hr : (m : Int) ≤ room) :
    Calls Try.prog 64 #[.pointer (some ⟨b, 0, none⟩), .int .i64 (m : Int)] w fun e w' => (∃ u, e = .returned u) ∧ ∃ v' zs', Hz B w' b v' zs' room 0 n i o ∧ cont zs' 0 n = cont zs f n ∧ m ≤ zs'.length ∧ Kp b v w w' ∧ ∃ g, v'.ownBlock = some g ∧ w.heap.size ≤ g := by
  have hl : (zs.length : Int) ≤ 1048576 := Int.le_trans h.lr h.r1
  have hrr := h.r1
  have hln := h.ln
  obtain ⟨A, c, rfl, hc, hC⟩ := Kd.R_reads h.row
  obtain ⟨h0, h1, h2, h3, h4, h5⟩ := h.cells
  obtain ⟨M1, hM1⟩ : ∃ M1 : Nat, M1 = max (max (2 * zs.length) m) 64 := ⟨_, rfl⟩
  obtain ⟨M, hM⟩ : ∃ M : Nat, M = min M1 room.toNat := ⟨_, rfl⟩
  have d1 : decide ((m : Int) ≤ (zs.length : Int)) = false := decide_eq_false (by omega)
  have d2 : decide (m ≤ zs.length) = false := decide_eq_false (by omega)
  have e1 : IntKind.i64.wrap (2 * (zs.length : Int)) = 2 * (zs.length : Int) := wid _ (by omega) (by omega)
  have e2 : ∀ W : World, (Builtin.max_ #[3, 3, 3] 3 #[.int .i64 (2 * (zs.length : Int)), .int .i64 (m : Int), .int .i64 64]).run Try.prog W = .ok (.int .i64 (M1 : Int)) W := by
    intro W
    rw [run_max_int3]
    congr 2
    (repeat' split) <;> omega
  have e3 : ∀ W : World, (Builtin.min_ #[3, 3] 3 #[.int .i64 (M1 : Int), .int .i64 room]).run Try.prog W = .ok (.int .i64 (M : Int)) W := by
    intro W
    rw [run_min_int2]
    congr 2
    (repeat' split) <;> omega
  have HQ := Aside0.mk (show m ≤ M ∧ (M : Int) ≤ room ∧ M ≤ 1048576 ∧ zs.length < M by omega)
  have H := Aside0.mk h
  have HBB := Aside0.mk hB
  have hm0 : Nat.min n M = n := Nat.min_eq_left (by omega)
  have HM := Aside0.mk hm0
  have hov := cont_grown (cont zs f n) M (by rw [cont_length]; omega) 0
  rw [cont_length] at hov
  have HV := Aside0.mk hov
  have hpk : peekF (cont zs f n) 0 n = cont zs f n := by
    rw [peekF_take, cont_length, List.take_of_length_le]
    rw [cont_length]
    unfold outN; split <;> omega
  have HP := Aside0.mk hpk
  clear h hl hrr hln hc hC hM1 hM hm0 hov hpk hm hr hB
  go_enter Try.func64, Try.ntmps64
  go_upto_region 1 with (fail)
  go_still_tail 13, (by kernel_rfl)
  change wpList _ _ _ _ _ w.drew
  go_wp2_with (first | ((with_reducible refine gate_dst (N := 25) rfl ?_); refine Kd.R_make (Kd.int .u8) (w0 := w) w.heap.size 5 rfl (N := 25) rfl 23 _ _ rfl (M : Int) rfl rfl Try.underlying23 (.int .u8 0) 1 info5 rfl (by decide) (by omega) 0 (ok := fun _ => True) (okp := fun _ => True) rfl (fun _ hk => hk) trivial (by omega) (by have := HQ.out; omega) (below_drew (Below.refl _ _)) (Nat.le_refl _) ?_; intro v1 w1 ho hb hg hnew; rw [Int.toNat_natCast] at ho; obtain ⟨g1, c1, rfl, hc1, hg1⟩ := made_form ho (List.length_replicate ..) hnew; have HO := Aside0.mk ho; have HB := Aside0.mk hb; have HG := Aside0.mk (And.intro hc1 hg1); have H1 := Aside0.mk (H.out.next hb); clear ho hb hg hnew hc1 hg1 h0 h1 h2 h3 h4 h5; obtain ⟨h0, h1, h2, h3, h4, h5⟩ := H1.out.cells) | (go_at_call 24; refine (peek_calls H1.out 0 n).mono ?_; rintro e w2 ⟨v2, rfl, hR, hB⟩; rw [HP.out] at hR; obtain ⟨A2, c2, rfl⟩ := Kd.R_slice hR; have HR2 := Aside0.mk hR; have HB2 := Aside0.mk hB; have H2 := Aside0.mk (H1.out.next hB); clear hR hB h0 h1 h2 h3 h4 h5; obtain ⟨h0, h1, h2, h3, h4, h5⟩ := H2.out.cells) | ((with_reducible refine gate_builtin (b := .copy) (xs := #[.tmp 26, .tmp 32]) rfl ?_); refine R_copy_list rfl (.tmp 26) (.tmp 32) 23 23 5 rfl Try.underlying23 size5 0 g1 M c1 M c1 c2 (cont zs f n).length n (by rw [cont_length]; exact HM.out) (List.replicate M 0) (cont zs f n) w.heap.size (fun _ => True) A2 (some ⟨g1, 0, none⟩) rfl rfl (fun _ => rfl) (by omega) (Kd.R_below HO.out HB2.out) (Kd.R_reads' HR2.out).2.2 ?_; intro w3 ho hg; rw [List.take_of_length_le (by rw [cont_length]; exact Nat.le_refl _)] at ho; have HO3 := Aside0.mk ho; have HG3 := Aside0.mk hg; have H3 := Aside0.mk (Hz.grown H2.out H.out hg HG.out.2); clear ho hg h0 h1 h2 h3 h4 h5; obtain ⟨h0, h1, h2, h3, h4, h5⟩ := H3.out.cells; have f1 := H3.out.free 1; have f2 := H3.out.free 2))
  go_end0
  have hb := H.out.lt
  have hlb := H.out.lb
  have hg := HG.out.2
  have hq := HQ.out
  have hBB := HBB.out
  have hlen : (over 0 (List.replicate M 0) (cont zs f n)).length = M := by rw [ovr_length _ _ _ (by rw [cont_length, List.length_replicate]; have := H.out.ln; omega), List.length_replicate]
  have hrow : Kd.R (Kd.int .u8) 5 w3 B (fun k => k ≠ b) (.slice (some ⟨g1, 0, none⟩) M c1) (over 0 (List.replicate M 0) (cont zs f n)) := by
    have h' := Kd.R_lower HO3.out hBB
    exact ⟨fun k hk => by have : k = g1 := by simpa [Value.ownBlock] using hk.symm
                          omega, (Kd.R_mono (ok' := fun _ => True) h' (fun _ _ => trivial)).2⟩
  refine ⟨⟨_, rfl⟩, .slice (some ⟨g1, 0, none⟩) M c1, _, ⟨blk_put (blk_put H3.out.blk 1 _ rfl) 2 _ rfl, ?_, H.out.lb, H.out.r0, H.out.r1, by rw [hlen]; exact hq.2.1, by rw [hlen]; have := H.out.ln; omega, .inr (by rw [hlen]; omega)⟩, HV.out, by rw [hlen]; exact hq.1, ?_, g1, rfl, hg⟩
  · exact Kd.R_far (Kd.R_far hrow (fun _ hk => hk) _) (fun _ hk => hk) _
  · refine Kp.set (Kp.set ?_ _ _) _ _
    exact ((Kp.of_below HB.out).trans (Kp.of_below (v := .slice (some ⟨g1, 0, none⟩) M c1) HB2.out) (.inr ⟨g1, rfl, hg⟩)).trans (Kp.of_grown (v := .slice (some ⟨g1, 0, none⟩) M c1) HG3.out) (.inr ⟨g1, rfl, hg⟩)
end Go.Proofs.Ytfmfpofbefgbgaa.HHose
