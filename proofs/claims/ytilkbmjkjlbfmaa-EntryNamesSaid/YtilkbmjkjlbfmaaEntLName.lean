/- Plain law of layer 26: when two entries, two completions are the same; the words. Conditions: each lemma's own. -/
import Derived.Test.YtilkbmjkjlbfmaaPEntx1
import Derived.Test.YtilkbmjkjlbfmaaPEntx2
import Derived.Test.YtilkbmjkjlbfmaaAr
import Derived.Test.YtilkbmjkjlbfmaaEntLEnt
namespace Go.Proofs.Ytilkbmjkjlbfmaa.PEnt
set_option linter.unusedVariables false
set_option linter.unusedSimpArgs false
open Go.RowKit Go.Proofs.Ytilkbmjkjlbfmaa.PEnt Go.Proofs.YtilkbmjkjlbfmaaW.PrintWords Go.Proofs.YtilkbmjkjlbfmaaW.PrintLast Go.Proofs.YtilkbmjkjlbfmaaW.PrintMore Go.Proofs.Ytilkbmjkjlbfmaa.Ar

theorem same_eq (a0 a1 a2 a3 a4 a5 a6 a7 a8 a9 : Int) (a : List Int) (b0 b1 b2 b3 b4 b5 b6 b7 b8 b9 : Int) (b : List Int) :
    entry_Same.f a0 a1 a2 a3 a4 a5 a6 a7 a8 a9 a b0 b1 b2 b3 b4 b5 b6 b7 b8 b9 b = towroperef26_Same.f a0 a1 a2 a3 a4 a5 a6 a7 a8 a9 a b0 b1 b2 b3 b4 b5 b6 b7 b8 b9 b := by
  unfold entry_Same.f towroperef26_Same.f bytes_Equal.f
  rw [Option.bind_some]
theorem same_some (a0 a1 a2 a3 a4 a5 a6 a7 a8 a9 : Int) (a : List Int) (b0 b1 b2 b3 b4 b5 b6 b7 b8 b9 : Int) (b : List Int) : ∃ z, towroperef26_Same.f a0 a1 a2 a3 a4 a5 a6 a7 a8 a9 a b0 b1 b2 b3 b4 b5 b6 b7 b8 b9 b = some z := by
  unfold towroperef26_Same.f
  repeat' split
  all_goals exact ⟨_, rfl⟩
theorem same_refl (a0 a1 a2 a3 a4 a5 a6 a7 a8 a9 : Int) (a : List Int) : towroperef26_Same.f a0 a1 a2 a3 a4 a5 a6 a7 a8 a9 a a0 a1 a2 a3 a4 a5 a6 a7 a8 a9 a = some true := by
  simp [towroperef26_Same.f]
theorem done_eq (a0 a1 a2 a3 : Int) (a : List Int) (b0 b1 b2 b3 : Int) (b : List Int) : entry_SameDone.f a0 a1 a2 a3 a b0 b1 b2 b3 b = towroperef26_SameDone.f a0 a1 a2 a3 a b0 b1 b2 b3 b := by
  unfold entry_SameDone.f towroperef26_SameDone.f bytes_Equal.f
  rw [Option.bind_some]
theorem done_some (a0 a1 a2 a3 : Int) (a : List Int) (b0 b1 b2 b3 : Int) (b : List Int) : ∃ z, towroperef26_SameDone.f a0 a1 a2 a3 a b0 b1 b2 b3 b = some z := by
  unfold towroperef26_SameDone.f
  repeat' split
  all_goals exact ⟨_, rfl⟩
theorem done_refl (a0 a1 a2 a3 : Int) (a : List Int) : towroperef26_SameDone.f a0 a1 a2 a3 a a0 a1 a2 a3 a = some true := by
  simp [towroperef26_SameDone.f]
/-- The word of an op that is one. -/
theorem name_in (op : Int) (h0 : 0 ≤ op) (h1 : op ≤ 13) : ∃ l : List ByteArray, towroperef26_Names.f = some l ∧ op < (l.length : Int) ∧ entry_Name.f op = some (rdOf ByteArray.empty l op) := by
  refine ⟨_, rfl, by simp only [List.length_cons, List.length_nil]; omega, ?_⟩
  unfold entry_Name.f
  rw [if_neg (by omega), if_neg (by omega), Option.bind_some, if_pos h0, if_pos (by simp only [List.length_cons, List.length_nil]; omega)]
theorem name_out (op : Int) (h : op < 0 ∨ op > 13) : entry_Name.f op = some (⟨#[63]⟩ : ByteArray) := by
  unfold entry_Name.f
  by_cases h0 : op < 0
  · rw [if_pos h0]
  · rw [if_neg h0, if_pos (by omega)]
end Go.Proofs.Ytilkbmjkjlbfmaa.PEnt
