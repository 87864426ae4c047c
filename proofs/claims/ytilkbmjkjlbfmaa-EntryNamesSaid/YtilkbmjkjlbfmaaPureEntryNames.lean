/- The word of what any entry asks, and whether any two entries, any two completions are the same: the program's answer is the document's. No conditions. -/
import Derived.Test.YtilkbmjkjlbfmaaPEntx1
import Derived.Test.YtilkbmjkjlbfmaaPEntx5
import Derived.Test.YtilkbmjkjlbfmaaQEntryNames
import Derived.Test.YtilkbmjkjlbfmaaEntLName
namespace Go.Proofs.Ytilkbmjkjlbfmaa.Pure
set_option linter.unusedVariables false
set_option linter.unusedSimpArgs false
open Go.RowKit Go.Proofs.Ytilkbmjkjlbfmaa.PEnt Go.Proofs.YtilkbmjkjlbfmaaW.PrintWords Go.Proofs.YtilkbmjkjlbfmaaW.PrintLast Go.Proofs.YtilkbmjkjlbfmaaW.PrintMore Go.Proofs.Ytilkbmjkjlbfmaa.Ar

theorem names_j1 (op : Int) (s : ByteArray) (hs : entry_Name.f op = some s) (a0 a1 a2 a3 a4 a5 a6 a7 a8 a9 : Int) (a : List Int) (b0 b1 b2 b3 b4 b5 b6 b7 b8 b9 : Int) (b : List Int) (c0 c1 c2 c3 : Int) (c : List Int) (d0 d1 d2 d3 : Int) (d : List Int) :
    towropelaw26_EntryNames.j1 11 op s a0 a1 a2 a3 a4 a5 a6 a7 a8 a9 a b0 b1 b2 b3 b4 b5 b6 b7 b8 b9 b c0 c1 c2 c3 c d0 d1 d2 d3 d = some true := by
  simp only [towropelaw26_EntryNames.j1]
  obtain ⟨y, hy⟩ := same_some a0 a1 a2 a3 a4 a5 a6 a7 a8 a9 a b0 b1 b2 b3 b4 b5 b6 b7 b8 b9 b
  obtain ⟨z, hz⟩ := done_some c0 c1 c2 c3 c d0 d1 d2 d3 d
  rw [hs, Option.bind_some, if_pos rfl, same_eq, hy, Option.bind_some, Option.bind_some, if_pos (by cases y <;> rfl), done_eq, hz, Option.bind_some, Option.bind_some, if_pos (by cases z <;> rfl),
    same_eq, same_refl, Option.bind_some, if_pos rfl, done_eq, done_refl, Option.bind_some, if_pos rfl, entry_live 0, Option.bind_some]
theorem EntryNames : EntryNamesSt := by
  intro op a0 a1 a2 a3 a4 a5 a6 a7 a8 a9 a b0 b1 b2 b3 b4 b5 b6 b7 b8 b9 b c0 c1 c2 c3 c d0 d1 d2 d3 d _ _ _ _ _ _ _ _ _ _ _ _ _ _ _ _ _ _ _ _ _ _ _ _ _ _ _ _ _ _ _ _ _ _ _ _ _
  refine ⟨12, ?_⟩
  unfold towropelaw26_EntryNames.f
  by_cases h0 : op ≥ 0
  · rw [if_pos h0]
    simp only [towropelaw26_EntryNames.j0]
    by_cases h1 : op ≤ 13
    · obtain ⟨l, hl, hlt, hn⟩ := name_in op h0 h1
      rw [if_pos (decide_eq_true h1), hl, Option.bind_some, if_pos (by omega), if_pos hlt]
      exact names_j1 op _ hn _ _ _ _ _ _ _ _ _ _ _ _ _ _ _ _ _ _ _ _ _ _ _ _ _ _ _ _ _ _ _ _
    · rw [if_neg (by simpa using h1)]
      exact names_j1 op _ (name_out op (by omega)) _ _ _ _ _ _ _ _ _ _ _ _ _ _ _ _ _ _ _ _ _ _ _ _ _ _ _ _ _ _ _ _
  · rw [if_neg h0]
    simp only [towropelaw26_EntryNames.j0]
    rw [if_neg (by simp)]
    exact names_j1 op _ (name_out op (by omega)) _ _ _ _ _ _ _ _ _ _ _ _ _ _ _ _ _ _ _ _ _ _ _ _ _ _ _ _ _ _ _ _
end Go.Proofs.Ytilkbmjkjlbfmaa.Pure
