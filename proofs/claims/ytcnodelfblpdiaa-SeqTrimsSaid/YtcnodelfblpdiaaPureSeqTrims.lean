/- For all numbers: what is cut out of a segment is just what is wanted. No conditions. -/
import Derived.Test.YtcnodelfblpdiaaPSeqTrimsx1
import Derived.Test.YtcnodelfblpdiaaAr
namespace Go.Proofs.Ytcnodelfblpdiaa.Pure
set_option linter.unusedVariables false
set_option linter.unusedSimpArgs false
open Go.RowKit Go.Proofs.Ytcnodelfblpdiaa.PSeqTrims Go.Proofs.YtcnodelfblpdiaaW.PrintWords Go.Proofs.YtcnodelfblpdiaaW.PrintLast Go.Proofs.YtcnodelfblpdiaaW.PrintMore Go.Proofs.Ytcnodelfblpdiaa.Ar

theorem trims_diff (a b : Int) (a0 : 0 ≤ a) (a1 : a ≤ 4294967295) (b0 : 0 ≤ b) (b1 : b ≤ 4294967295) : towroperef03_Diff.f a b = some (wrap64 (wrap32 ((a - b) % 4294967296))) := by
  unfold towroperef03_Diff.f
  rw [w64 (n := a) (by omega) (by omega), w64 (n := b) (by omega) (by omega), w64 (n := a - b) (by omega) (by omega)]
  repeat' split
  all_goals
    congr 1
    unfold wrap64 wrap32 at *
    omega

def clp (n : Int) : Int := mn (mx n 0) 1048576
theorem clp_bd (n : Int) : 0 ≤ clp n ∧ clp n ≤ 1048576 := by unfold clp mn mx; repeat' split <;> omega
theorem trims_clip (n : Int) : towroperef03_Clip.f n = some (clp n) := by
  unfold towroperef03_Clip.f clp mn mx
  repeat' split
  all_goals first | rfl | omega | (congr 1; omega)

theorem wanted (s k next w D : Int) (s0 : 0 ≤ s) (s1 : s ≤ 4294967295) (n0 : 0 ≤ next) (n1 : next ≤ 4294967295) (k0 : 0 ≤ k) (k1 : k ≤ 1048576)
    (hD : D = wrap64 (wrap32 ((next - s) % 4294967296))) : towroperef03_Wanted.f s k next w = some (decide (D ≤ k ∧ k < D + clp w)) := by
  have c := clp_bd w
  have ea : towroperef03_Add.f s k = some ((s + k) % 4294967296) := by
    unfold towroperef03_Add.f
    rw [u64w, u64w, u64w, tm (k % 18446744073709551616) _ (by omega), tm _ _ (by omega)]
    congr 1
    omega
  unfold towroperef03_Wanted.f
  rw [ea]
  simp only [Option.bind_some]
  rw [trims_diff _ _ (by omega) (by omega) n0 n1, trims_clip]
  simp only [Option.bind_some]
  generalize clp w = W at *
  subst hD
  split
  · congr 1
    refine decide_eq_decide.2 ?_
    unfold wrap64 wrap32 at *
    omega
  · congr 1
    refine (decide_eq_false ?_).symm
    unfold wrap64 wrap32 at *
    omega

theorem SeqTrims : towropelaw03_SeqTrims.Pure := by
  intro s length next window x hs hl hn hw hx
  obtain ⟨s0, s1⟩ := bounds_u32 hs
  obtain ⟨n0, n1⟩ := bounds_u32 hn
  obtain ⟨x0, x1⟩ := bounds_u32 hx
  have live : towropelaw03_live.f = some true := by decide +kernel
  have cl := clp_bd length
  have cw := clp_bd window
  obtain ⟨D, hD⟩ : ∃ D, D = wrap64 (wrap32 ((next - s) % 4294967296)) := ⟨_, rfl⟩
  have D0 : -2147483648 ≤ D := by unfold wrap64 wrap32 at hD; omega
  have D1 : D ≤ 2147483647 := by unfold wrap64 wrap32 at hD; omega
  have W := fun k (k0 : 0 ≤ k) (k1 : k ≤ 1048576) => wanted s k next window D s0 s1 n0 n1 k0 k1 hD
  have et : seq_Trim.f s length next window = some (if mx D 0 ≥ mn (D + clp window) (clp length) then (0, 0) else (mx D 0, mn (D + clp window) (clp length))) := by
    unfold seq_Trim.f seq_clip.f seq_Diff.f
    simp only [Option.bind_some]
    rw [← hD, ← clp, ← clp, w64 (n := D + clp window) (by omega) (by omega)]
    split <;> rfl
  clear hD hl hw hn hs hx
  generalize hL : clp length = L at *
  generalize hWw : clp window = C at *
  refine ⟨2, ?_⟩
  unfold towropelaw03_SeqTrims.f
  rw [et, trims_clip, hL]
  simp only [Option.bind_some]
  have e4 : wrap64 x = x := w64 (by omega) (by omega)
  obtain ⟨f, t, hft, P⟩ : ∃ f t, (if mx D 0 ≥ mn (D + C) L then ((0 : Int), (0 : Int)) else (mx D 0, mn (D + C) L)) = (f, t) ∧
      ((f = 0 ∧ t = 0 ∧ (∀ k, 0 ≤ k → k < L → ¬ (D ≤ k ∧ k < D + C))) ∨ (0 ≤ f ∧ f < t ∧ t ≤ L ∧ (∀ k, 0 ≤ k → k < L → ((D ≤ k ∧ k < D + C) ↔ (f ≤ k ∧ k < t))))) := by
    by_cases h : mx D 0 ≥ mn (D + C) L
    · refine ⟨0, 0, if_pos h, .inl ⟨rfl, rfl, fun k _ _ => ?_⟩⟩
      revert h
      unfold mx mn
      repeat' split
      all_goals omega
    · refine ⟨_, _, if_neg h, .inr ?_⟩
      revert h
      unfold mx mn
      intro h
      refine ⟨?_, ?_, ?_, fun k _ _ => ?_⟩
      all_goals
        revert h
        repeat' split
        all_goals omega
  rw [hft]
  clear hft et
  simp only
  rcases P with ⟨rfl, rfl, P⟩ | ⟨f0, f1, f2, P⟩
  · rw [if_neg (by omega), if_neg (by omega), if_neg (by omega), if_pos rfl]
    simp only [towropelaw03_SeqTrims.j0]
    rw [if_neg (by simp)]
    by_cases h : L = 0
    · rw [if_pos h, live]; rfl
    · rw [if_neg h, e4, tm x L x0]
      have k0 := Int.emod_nonneg x h
      have k1 := Int.emod_lt_of_pos x (by omega : 0 < L)
      rw [W _ k0 (by omega), decide_eq_false (P _ k0 k1)]
      simp only [Option.bind_some]
      rw [if_pos k0]
      simp only [towropelaw03_SeqTrims.j1]
      rw [if_neg (by rw [decide_eq_false (by omega)]; simp), if_neg (by omega), live]
      rfl
  · rw [if_neg (by omega), if_neg (by omega), if_neg (by omega), if_neg (by omega)]
    simp only [towropelaw03_SeqTrims.j0]
    rw [if_neg (by simp), if_neg (by omega), e4, tm x L x0]
    have k0 := Int.emod_nonneg x (by omega : L ≠ 0)
    have k1 := Int.emod_lt_of_pos x (by omega : 0 < L)
    generalize x % L = k at *
    have fin : towropelaw03_SeqTrims.j1 1 s next window f t L false = some true := by
      simp only [towropelaw03_SeqTrims.j1]
      rw [if_neg (by simp), if_pos f1, w64 (n := t - 1) (by omega) (by omega), w64 (n := f - 1) (by omega) (by omega), W f f0 (by omega), W (t - 1) (by omega) (by omega),
        decide_eq_true ((P f f0 (by omega)).2 (by omega)), decide_eq_true ((P (t - 1) (by omega) (by omega)).2 (by omega)), live]
      simp only [Option.bind_some, if_true]
      have last : (if t < L then (towroperef03_Wanted.f s t next window).bind fun t120 => (if t120 = true then some false else some true) else some true) = some true := by
        split
        · rename_i h
          rw [W t (by omega) (by omega), decide_eq_false (fun hh => by have := (P t (by omega) h).1 hh; omega)]
          simp
        · rfl
      split
      · rename_i h
        rw [W (f - 1) (by omega) (by omega), decide_eq_false (fun hh => by have := (P (f - 1) (by omega) (by omega)).1 hh; omega)]
        simp only [Option.bind_some]
        rw [if_neg (by simp)]
        exact last
      · exact last
    rw [W k k0 (by omega)]
    simp only [Option.bind_some]
    split
    · rename_i h
      have hx : decide (D ≤ k ∧ k < D + C) = decide (k < t) := decide_eq_decide.2 ⟨fun hh => ((P k k0 k1).1 hh).2, fun hh => (P k k0 k1).2 ⟨h, hh⟩⟩
      rw [hx, bne_self_eq_false]
      exact fin
    · rename_i h
      rw [show ((decide (D ≤ k ∧ k < D + C)) != false) = false by
        rw [decide_eq_false (fun hh => h ((P k k0 k1).1 hh).1)]; rfl]
      exact fin
end Go.Proofs.Ytcnodelfblpdiaa.Pure
