/- For all bytes: those whose number is even are right with their check sum behind them, and pairs may come in any order. No conditions. -/
import Derived.Test.YtcnodelfblpdiaaPSumx1
import Derived.Test.YtcnodelfblpdiaaPSumx3
import Derived.Test.YtcnodelfblpdiaaSumLTot
namespace Go.Proofs.Ytcnodelfblpdiaa.Pure
set_option linter.unusedVariables false
set_option linter.unusedSimpArgs false
open Go.RowKit Go.Proofs.Ytcnodelfblpdiaa.PSum Go.Proofs.YtcnodelfblpdiaaW.PrintWords Go.Proofs.YtcnodelfblpdiaaW.PrintLast Go.Proofs.YtcnodelfblpdiaaW.PrintMore Go.Proofs.Ytcnodelfblpdiaa.Ar Go.Proofs.Ytcnodelfblpdiaa.HSum

theorem right_live : towropelaw02_live.f = some true := by decide +kernel

theorem right_j0 (a : Int) (x : List Int) (a0 : 0 ≤ a) (a1 : a ≤ 65535) (hl : x.length ≤ 140737488351240) (h2 : x.length % 2 = 0) (hb : bytesB x = true) : towropelaw02_SumRight.j0 1 a x = some true := by
  have ht := sumW_top hb
  have hn := tt_nonneg hb
  have l2 : (twoS (65535 - sumW x)).length = 2 := rfl
  have hr : sumW (x ++ twoS (65535 - sumW x)) = 65535 := by
    rw [sumW_tt (bytesB_append hb (twoS_bytes _)), tt_append _ _ h2, tt_two _ (by omega) (by omega), sumW_tt hb]
    exact norm_full _ hn
  simp only [towropelaw02_SumRight.j0]
  rw [check_f x (by omega) hb]
  simp only [Option.bind_some, List.length_nil, Nat.zero_add, List.nil_append]
  rw [if_pos (by omega), two_f]
  simp only [Option.bind_some]
  rw [l2, if_pos (by omega), right_f _ (by rw [List.length_append, l2]; omega) (bytesB_append hb (twoS_bytes _)), hr, right_live]
  simp only [Option.bind_some, beq_self_eq_true, if_true]
  have turn : ∀ k : Nat, k % 2 = 0 → k ≤ x.length → sum_Check.f (x.drop k ++ x.take k) = some (65535 - sumW x) := by
    intro k hk hle
    have hd : bytesB (x.drop k ++ x.take k) = true := bytesB_append (bytesB_of fun y hy => bytesB_mem hb (List.mem_of_mem_drop hy)) (bytesB_of fun y hy => bytesB_mem hb (List.mem_of_mem_take hy))
    rw [check_f _ (by rw [List.length_append, List.length_drop, List.length_take]; omega) hd, sumW_tt hd, tt_turn x k hk h2 hle, ← sumW_tt hb]
  by_cases h0 : (x.length : Int) > 0
  · rw [if_pos h0, w64 (n := (x.length : Int) / 2) (by omega) (by omega), if_neg (by omega), w64 (n := a) (by omega) (by omega), tm a _ a0]
    have m0 := Int.emod_nonneg a (by omega : (x.length : Int) / 2 ≠ 0)
    have m1 := Int.emod_lt_of_pos a (by omega : 0 < (x.length : Int) / 2)
    obtain ⟨m, hm⟩ := Int.eq_ofNat_of_zero_le m0
    rw [hm] at m0 m1 ⊢
    rw [w64 (n := (m : Int) * 2) (by omega) (by omega), if_pos (by omega), if_pos (by omega), show ((m : Int) * 2).toNat = 2 * m by omega, if_pos (by rw [List.length_drop]; omega), if_pos (by rw [List.length_drop, List.length_take]; omega), turn (2 * m) (by omega) (by omega)]
    simp only [Option.bind_some, if_true]
  · rw [if_neg h0, if_pos (by omega)]
    rw [if_pos (by rw [List.length_drop]; omega), if_pos (by rw [List.length_drop, List.length_take]; omega), turn 0 (by omega) (by omega)]
    simp only [Option.bind_some, if_true]

theorem SumRight : towropelaw02_SumRight.Pure := by
  intro l a _ hl hw ha
  obtain ⟨a0, a1⟩ := bounds_u16 ha
  rw [Nat.mul_one] at hl
  have hb := bytesB_wf hw
  refine ⟨1, ?_⟩
  unfold towropelaw02_SumRight.f
  simp only [Option.bind_some, List.length_nil, Nat.zero_add, List.nil_append]
  rw [if_pos (by omega)]
  split
  · rw [if_pos (by omega)]
    exact right_j0 a (l ++ [0]) a0 a1 (by simp; omega) (by simp; omega) (bytesB_append hb rfl)
  · exact right_j0 a l a0 a1 (by omega) (by omega) hb
end Go.Proofs.Ytcnodelfblpdiaa.Pure
