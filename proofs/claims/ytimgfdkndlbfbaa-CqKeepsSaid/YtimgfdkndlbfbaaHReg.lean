/- A region that draws its order, walked in one order: what is held of the world may be told anew behind each call. Conditions: each lemma's own. -/
import Derived.Test.YtimgfdkndlbfbaaHExt
namespace Go.Proofs.Ytimgfdkndlbfbaa.HReg
open Go.RowKit Go.Proofs.YtimgfdkndlbfbaaW.PrintWords Go.Proofs.YtimgfdkndlbfbaaW.PrintLast Go.Proofs.YtimgfdkndlbfbaaW.PrintMore
section
variable {P : Program} {ops : Array Oper} {Q : Exit → Act → World → Prop} {md : Region.Mode} {S S' : World → Prop}
/-- More is held from here on. -/
theorem more0_ (hS : ∀ w, S' w → S w) : ∀ (fuel : Nat) (l : Array Bool) (a : Act) (w : World), S' w → wpAnyLast P md ops Q S' [] fuel l a w → wpAnyLast P md ops Q S [] fuel l a w := by
  intro fuel
  induction fuel with
  | zero => intro l a w _ h; exact h
  | succ n ih =>
    intro l a w hw h
    refine ⟨h.1, fun i hi => wpOp_mono (fun a' w' h' => ?_) (h.2 i hi)⟩
    have h2 := h'.1 (by simp) hw
    exact ⟨fun _ _ => hS _ h2, ih _ _ _ h2 h'.2⟩
theorem more_ (hS : ∀ w, S' w → S w) {fuel : Nat} {l : Array Bool} {a : Act} {w : World} (hw : S' w) (h : S' w → wpAnyLast P md ops Q S' [] fuel l a w) : wpAnyLast P md ops Q S [] fuel l a w := more0_ hS fuel l a w hw (h hw)
end
end Go.Proofs.Ytimgfdkndlbfbaa.HReg
