/- For any two segments: whether they are the same is told as by definition. No conditions. -/
import Derived.Test.YtilkbmjkjlbfmaaPSegSx1
import Derived.Test.YtilkbmjkjlbfmaaPSegSx2
import Derived.Test.YtilkbmjkjlbfmaaPSegSx3
import Derived.Test.YtilkbmjkjlbfmaaQSegSame
import Derived.Test.YtilkbmjkjlbfmaaAr
namespace Go.Proofs.Ytilkbmjkjlbfmaa.Pure
set_option linter.unusedVariables false
set_option linter.unusedSimpArgs false
open Go.RowKit Go.Proofs.Ytilkbmjkjlbfmaa.PSegS Go.Proofs.YtilkbmjkjlbfmaaW.PrintWords Go.Proofs.YtilkbmjkjlbfmaaW.PrintLast Go.Proofs.YtilkbmjkjlbfmaaW.PrintMore Go.Proofs.Ytilkbmjkjlbfmaa.Ar

theorem seg_live : towropelaw09_live.f 10 = some true := by decide +kernel
theorem segsame_eq (a0 a1 a2 a3 a4 a5 a6 a7 : Int) (a8 : List Int) (b0 b1 b2 b3 b4 b5 b6 b7 : Int) (b8 : List Int) :
    seg_Same.f a0 a1 a2 a3 a4 a5 a6 a7 a8 b0 b1 b2 b3 b4 b5 b6 b7 b8 = towroperef09_Same.f a0 a1 a2 a3 a4 a5 a6 a7 a8 b0 b1 b2 b3 b4 b5 b6 b7 b8 := by
  unfold seg_Same.f towroperef09_Same.f bytes_Equal.f
  simp only [Option.bind_some]
theorem segsame_some (a0 a1 a2 a3 a4 a5 a6 a7 : Int) (a8 : List Int) (b0 b1 b2 b3 b4 b5 b6 b7 : Int) (b8 : List Int) :
    ∃ z, towroperef09_Same.f a0 a1 a2 a3 a4 a5 a6 a7 a8 b0 b1 b2 b3 b4 b5 b6 b7 b8 = some z := by
  unfold towroperef09_Same.f
  repeat' split
  all_goals exact ⟨_, rfl⟩
theorem segsame_refl (a0 a1 a2 a3 a4 a5 a6 a7 : Int) (a8 : List Int) : towroperef09_Same.f a0 a1 a2 a3 a4 a5 a6 a7 a8 a0 a1 a2 a3 a4 a5 a6 a7 a8 = some true := by
  simp [towroperef09_Same.f]
theorem SegSame : SegSameSt := by
  intro a0 a1 a2 a3 a4 a5 a6 a7 a8 b0 b1 b2 b3 b4 b5 b6 b7 b8
  intros
  refine ⟨10, ?_⟩
  unfold towropelaw09_SegSame.f
  obtain ⟨z, hz⟩ := segsame_some a0 a1 a2 a3 a4 a5 a6 a7 a8 b0 b1 b2 b3 b4 b5 b6 b7 b8
  rw [segsame_eq, segsame_eq, hz, segsame_refl, seg_live]
  simp
end Go.Proofs.Ytilkbmjkjlbfmaa.Pure
