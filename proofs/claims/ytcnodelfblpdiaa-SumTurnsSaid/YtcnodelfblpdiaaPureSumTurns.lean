/- For all bytes: a check sum, turned with two bytes of what it is of, is the one that is reckoned anew, or one is nought and the other one is all ones. No conditions. -/
import Derived.Test.YtcnodelfblpdiaaPSumx1
import Derived.Test.YtcnodelfblpdiaaPSumx4
import Derived.Test.YtcnodelfblpdiaaSumLTot
namespace Go.Proofs.Ytcnodelfblpdiaa.Pure
set_option linter.unusedVariables false
set_option linter.unusedSimpArgs false
open Go.RowKit Go.Proofs.Ytcnodelfblpdiaa.PSum Go.Proofs.YtcnodelfblpdiaaW.PrintWords Go.Proofs.YtcnodelfblpdiaaW.PrintLast Go.Proofs.YtcnodelfblpdiaaW.PrintMore Go.Proofs.Ytcnodelfblpdiaa.Ar Go.Proofs.Ytcnodelfblpdiaa.HSum

theorem turns_live : towropelaw02_live.f = some true := by decide +kernel

theorem pair_le : ∀ (m : Nat) (l : List Int), bytesB l = true → 2 * m + 1 < l.length → rd l ((2 * m : Nat) : Int) * 256 + rd l ((2 * m + 1 : Nat) : Int) ≤ tt l
  | 0, x :: y :: t, h, _ => by
    have := tt_nonneg (bytesB_cons (bytesB_cons h).2).2
    show x * 256 + y ≤ x * 256 + y + tt t
    omega
  | m + 1, x :: y :: t, h, hl => by
    have h1 := (bytesB_cons h).1
    have h2 := (bytesB_cons (bytesB_cons h).2).1
    have ih := pair_le m t (bytesB_cons (bytesB_cons h).2).2 (by simp only [List.length_cons] at hl; omega)
    rw [show 2 * (m + 1) = 2 * m + 2 by omega, show 2 * m + 2 + 1 = (2 * m + 1) + 2 by omega, rd_two, rd_two]
    show _ ≤ x * 256 + y + tt t
    omega
  | _, [], _, h => by simp at h
  | _, [_], _, h => by simp at h

theorem turns_j1 (a b : Int) (x : List Int) (a0 : 0 ≤ a) (a1 : a ≤ 65535) (b0 : 0 ≤ b) (b1 : b ≤ 65535) (hl : x.length ≤ 140737488351240) (h2 : x.length % 2 = 0) (hp : 0 < x.length) (hb : bytesB x = true) : towropelaw02_SumTurns.j1 1 a b x = some true := by
  simp only [towropelaw02_SumTurns.j1]
  rw [w64 (n := (x.length : Int) / 2) (by omega) (by omega), w64 (n := a) (by omega) (by omega), tm a _ a0]
  have m0 := Int.emod_nonneg a (by omega : (x.length : Int) / 2 ≠ 0)
  have m1 := Int.emod_lt_of_pos a (by omega : 0 < (x.length : Int) / 2)
  obtain ⟨m, hm⟩ := Int.eq_ofNat_of_zero_le m0
  rw [hm] at m0 m1 ⊢
  have hm2 : 2 * m + 1 < x.length := by omega
  have e1 : wrap64 ((m : Int) * 2) = ((2 * m : Nat) : Int) := by rw [w64 (by omega) (by omega)]; omega
  have e2 : wrap64 (((2 * m : Nat) : Int) + 1) = ((2 * m + 1 : Nat) : Int) := by rw [w64 (by omega) (by omega)]; omega
  have r0 := bytes_rd hb ((2 * m : Nat) : Int)
  have r1 := bytes_rd hb ((2 * m + 1 : Nat) : Int)
  rw [e1, e2, if_neg (by omega), if_pos (by omega), if_pos (by omega), if_pos (by omega), if_pos (by omega), check_f x (by omega) hb]
  simp only [Option.bind_some, List.length_nil, Nat.zero_add, List.nil_append]
  rw [if_pos (by omega), if_pos (by omega), if_pos (by omega), Int.toNat_natCast, Int.toNat_natCast,
    w64 (n := rd x ((2 * m : Nat) : Int)) (by omega) (by omega), w64 (n := 256 * rd x ((2 * m : Nat) : Int)) (by omega) (by omega), w64 (n := rd x ((2 * m + 1 : Nat) : Int)) (by omega) (by omega), w64 (n := b) (by omega) (by omega),
    w64 (n := 256 * rd x ((2 * m : Nat) : Int) + rd x ((2 * m + 1 : Nat) : Int)) (by omega) (by omega), tm b 256 b0, td b 256 b0, u16w]
  have hby : bytesB ((x.set (2 * m) (b / 256 % 65536 % 256)).set (2 * m + 1) (b % 256 % 256)) = true := bytesB_of fun y hy => by
    rcases List.mem_or_eq_of_mem_set hy with hy | rfl
    · rcases List.mem_or_eq_of_mem_set hy with hy | rfl
      · exact bytesB_mem hb hy
      · omega
    · omega
  have ht := sumW_top hb
  have ht2 := sumW_top hby
  have hle := pair_le m x hb hm2
  have hts := tt_set m x (b / 256 % 65536 % 256) (b % 256 % 256) hm2
  obtain ⟨p0, q0, pq⟩ := norm_turn (tt x) (256 * rd x ((2 * m : Nat) : Int) + rd x ((2 * m + 1 : Nat) : Int)) b (tt_nonneg hb) (by omega) (by omega) b0 b1 (by omega)
  rw [turn_f _ _ _ (by omega) (by omega) (by omega) (by omega), check_f _ (by rw [List.length_set, List.length_set]; omega) hby, turns_live]
  simp only [Option.bind_some]
  have hP : turnS (65535 - sumW x) (256 * rd x ((2 * m : Nat) : Int) + rd x ((2 * m + 1 : Nat) : Int)) b = 65535 - addF (addF (norm (tt x)) (65535 - (256 * rd x ((2 * m : Nat) : Int) + rd x ((2 * m + 1 : Nat) : Int)))) b := by
    unfold turnS
    rw [← sumW_tt hb, show 65535 - (65535 - sumW x) % 65536 = sumW x by omega, show (256 * rd x ((2 * m : Nat) : Int) + rd x ((2 * m + 1 : Nat) : Int)) % 65536 = 256 * rd x ((2 * m : Nat) : Int) + rd x ((2 * m + 1 : Nat) : Int) by omega]
  have hQ : 65535 - sumW ((x.set (2 * m) (b / 256 % 65536 % 256)).set (2 * m + 1) (b % 256 % 256)) = 65535 - norm (tt x - (256 * rd x ((2 * m : Nat) : Int) + rd x ((2 * m + 1 : Nat) : Int)) + b) := by
    rw [sumW_tt hby, hts]
    congr 2
    omega
  rw [hP, hQ]
  generalize 65535 - addF (addF (norm (tt x)) (65535 - (256 * rd x ((2 * m : Nat) : Int) + rd x ((2 * m + 1 : Nat) : Int)))) b = p at *
  generalize 65535 - norm (tt x - (256 * rd x ((2 * m : Nat) : Int) + rd x ((2 * m + 1 : Nat) : Int)) + b) = q at *
  rcases pq with h | ⟨h, h0⟩
  · rw [if_pos h]
  · by_cases he : p = q
    · rw [if_pos he]
    · have hz : p * q = 0 := by rcases h0 with h0 | h0 <;> rw [h0] <;> simp
      rw [if_neg he, w64 (n := p + q) (by omega) (by omega), if_pos h, hz, if_pos (w64 (n := 0) (by omega) (by omega))]

theorem turns_j0 (a b : Int) (x : List Int) (a0 : 0 ≤ a) (a1 : a ≤ 65535) (b0 : 0 ≤ b) (b1 : b ≤ 65535) (hl : x.length ≤ 140737488351240) (h2 : x.length % 2 = 0) (hb : bytesB x = true) : towropelaw02_SumTurns.j0 2 a b x = some true := by
  simp only [towropelaw02_SumTurns.j0]
  split
  · exact turns_j1 a b [1, 2] a0 a1 b0 b1 (by simp) rfl (by simp) rfl
  · exact turns_j1 a b x a0 a1 b0 b1 hl h2 (by omega) hb

theorem SumTurns : towropelaw02_SumTurns.Pure := by
  intro l a b _ hl hw ha hb'
  obtain ⟨a0, a1⟩ := bounds_u16 ha
  obtain ⟨b0, b1⟩ := bounds_u16 hb'
  rw [Nat.mul_one] at hl
  have hb := bytesB_wf hw
  refine ⟨2, ?_⟩
  unfold towropelaw02_SumTurns.f
  simp only [Option.bind_some, List.length_nil, Nat.zero_add, List.nil_append]
  rw [if_pos (by omega)]
  split
  · rw [if_pos (by omega)]
    exact turns_j0 a b (l ++ [7]) a0 a1 b0 b1 (by simp; omega) (by simp; omega) (bytesB_append hb rfl)
  · exact turns_j0 a b l a0 a1 b0 b1 (by omega) (by omega) hb
end Go.Proofs.Ytcnodelfblpdiaa.Pure
