/- For all numbers: how far any two are from one another, which one is behind, so many further, and one of so many are told as by definition. No conditions. -/
import Derived.Test.YtcnodelfblpdiaaPSeqPairsx1
import Derived.Test.YtcnodelfblpdiaaAr
namespace Go.Proofs.Ytcnodelfblpdiaa.Pure
set_option linter.unusedVariables false
set_option linter.unusedSimpArgs false
open Go.RowKit Go.Proofs.Ytcnodelfblpdiaa.PSeqPairs Go.Proofs.YtcnodelfblpdiaaW.PrintWords Go.Proofs.YtcnodelfblpdiaaW.PrintLast Go.Proofs.YtcnodelfblpdiaaW.PrintMore Go.Proofs.Ytcnodelfblpdiaa.Ar

theorem pairs_diff (a b : Int) (a0 : 0 ≤ a) (a1 : a ≤ 4294967295) (b0 : 0 ≤ b) (b1 : b ≤ 4294967295) : towroperef03_Diff.f a b = some (wrap64 (wrap32 ((a - b) % 4294967296))) := by
  unfold towroperef03_Diff.f
  rw [w64 (n := a) (by omega) (by omega), w64 (n := b) (by omega) (by omega), w64 (n := a - b) (by omega) (by omega)]
  repeat' split
  all_goals
    congr 1
    unfold wrap64 wrap32 at *
    omega

theorem pairs_add (a n : Int) (a0 : 0 ≤ a) : towroperef03_Add.f a n = some ((a + n % 4294967296) % 4294967296) := by
  unfold towroperef03_Add.f
  rw [u64w, u64w, u64w, tm (n % 18446744073709551616) _ (by omega), tm _ _ (by omega)]
  congr 1
  omega

theorem pairs_in (a b n : Int) (a0 : 0 ≤ a) (a1 : a ≤ 4294967295) (b0 : 0 ≤ b) (b1 : b ≤ 4294967295) (n0 : -9223372036854775808 ≤ n) (n1 : n ≤ 9223372036854775807) :
    towroperef03_In.f a b n = seq_In.f a b n := by
  unfold towroperef03_In.f seq_In.f
  rw [w64 (n := a) (by omega) (by omega), w64 (n := b) (by omega) (by omega), w64 (n := a - b) (by omega) (by omega), u64w]
  have e : ∀ p q : Prop, [Decidable p] → [Decidable q] → (p ↔ q) → some (decide p) = some (decide q) := fun p q _ _ h => by congr 1; exact decide_eq_decide.2 h
  by_cases h : n > 0
  · rw [if_pos h]
    split
    · rw [w64 (by omega) (by omega)]; exact e _ _ (by omega)
    · exact e _ _ (by omega)
  · rw [if_neg h]
    split
    · rw [w64 (by omega) (by omega), decide_eq_false (by omega)]
    · rw [decide_eq_false (by omega)]

theorem SeqPairs : towropelaw03_SeqPairs.Pure := by
  intro a b n ha hb hn
  obtain ⟨a0, a1⟩ := bounds_u32 ha
  obtain ⟨b0, b1⟩ := bounds_u32 hb
  obtain ⟨n0, n1⟩ := bounds_i64 hn
  have live : towropelaw03_live.f = some true := by decide +kernel
  obtain ⟨r, hr⟩ : ∃ r, seq_In.f a b n = some r := by unfold seq_In.f; split <;> exact ⟨_, rfl⟩
  refine ⟨1, ?_⟩
  unfold towropelaw03_SeqPairs.f
  rw [pairs_diff a b a0 a1 b0 b1]
  simp only [Option.bind_some]
  have hd : seq_Diff.f a b = some (wrap64 (wrap32 ((a - b) % 4294967296))) := rfl
  generalize wrap64 (wrap32 ((a - b) % 4294967296)) = d at *
  split
  all_goals
    rename_i h
    simp only [towropelaw03_SeqPairs.j0]
    unfold seq_Less.f seq_Max.f seq_Less.f seq_Add.f
    rw [hd, pairs_add a n a0, pairs_in a b n a0 a1 b0 b1 n0 n1, hr, live]
    simp only [Option.bind_some]
    simp [h]
end Go.Proofs.Ytcnodelfblpdiaa.Pure
