/- Plain law of layer 6: what ip's Check, Len, Same and live come to. Conditions: each lemma's own. -/
import Derived.Test.YtdphjljbdodonaaPIpx1
import Derived.Test.YtdphjljbdodonaaPIpx5
import Derived.Test.YtdphjljbdodonaaIpLView
namespace Go.Proofs.Ytdphjljbdodonaa.PIp
set_option linter.unusedVariables false
set_option linter.unusedSimpArgs false
open Go.RowKit Go.Proofs.Ytdphjljbdodonaa.PIp Go.Proofs.YtdphjljbdodonaaW.PrintWords Go.Proofs.YtdphjljbdodonaaW.PrintLast Go.Proofs.YtdphjljbdodonaaW.PrintMore Go.Proofs.Ytdphjljbdodonaa.Ar Go.Proofs.Ytdphjljbdodonaa.HSum Go.Proofs.Ytdphjljbdodonaa.HExt

theorem ip_live : ∀ k, towropelaw06_live.f (k + 10) = some true := by
  intro k
  induction k with
  | zero => decide +kernel
  | succ k ih => exact towropelaw06_live.mono (k + 10) true ih
theorem ipcode_f (x : Int) : towropelaw06_code.f x = some x := rfl
theorem ipsame_some (a0 a1 : Int) (a2 a3 : Bool) (a4 a5 a6 a7 a8 : Int) (a9 a10 : List Int) (b0 b1 : Int) (b2 b3 : Bool) (b4 b5 b6 b7 b8 : Int) (b9 b10 : List Int) :
    ∃ z, towroperef06_Same.f a0 a1 a2 a3 a4 a5 a6 a7 a8 a9 a10 b0 b1 b2 b3 b4 b5 b6 b7 b8 b9 b10 = some z := by
  unfold towroperef06_Same.f
  repeat' split
  all_goals exact ⟨_, rfl⟩
theorem ipsame_refl (a0 a1 : Int) (a2 a3 : Bool) (a4 a5 a6 a7 a8 : Int) (a9 a10 : List Int) : towroperef06_Same.f a0 a1 a2 a3 a4 a5 a6 a7 a8 a9 a10 a0 a1 a2 a3 a4 a5 a6 a7 a8 a9 a10 = some true := by
  simp [towroperef06_Same.f]
end Go.Proofs.Ytdphjljbdodonaa.PIp
