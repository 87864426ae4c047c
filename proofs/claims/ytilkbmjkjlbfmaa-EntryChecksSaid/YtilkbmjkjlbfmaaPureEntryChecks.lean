/- Which entries may be: the program's answer is the document's. No conditions. -/
import Derived.Test.YtilkbmjkjlbfmaaPEntx9
import Derived.Test.YtilkbmjkjlbfmaaQEntryChecks
import Derived.Test.YtilkbmjkjlbfmaaEntLChk
namespace Go.Proofs.Ytilkbmjkjlbfmaa.Pure
set_option linter.unusedVariables false
set_option linter.unusedSimpArgs false
open Go.RowKit Go.Proofs.Ytilkbmjkjlbfmaa.PEnt Go.Proofs.YtilkbmjkjlbfmaaW.PrintWords Go.Proofs.YtilkbmjkjlbfmaaW.PrintLast Go.Proofs.YtilkbmjkjlbfmaaW.PrintMore Go.Proofs.Ytilkbmjkjlbfmaa.Ar

theorem EntryChecks : EntryChecksSt := by
  intro op fl fd ad po n gr ct aux us d ho hf _ _ _ _ _ _ _ _ _ _
  refine ⟨10, ?_⟩
  unfold towropelaw26_EntryChecks.f
  split
  · rw [entry_live 0, Option.bind_some]
  · rw [check_f 8 _ _ _ _ _ _ _ _ _ _ _ (bounds_u8 ho) (bounds_u8 hf), Option.bind_some, entry_code, Option.bind_some, ref_f 6 _ _ _ _ _ _ _ _ _ _ _ (bounds_u8 ho) (bounds_u8 hf), Option.bind_some, if_pos rfl, entry_live 0, Option.bind_some]
end Go.Proofs.Ytilkbmjkjlbfmaa.Pure
