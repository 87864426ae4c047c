/- The law FragHolds of frag: its contract. Conditions: each theorem's own. -/
import Derived.Test.YtfmfpofbefgbgaaHHolds2
namespace Go.Proofs.Ytfmfpofbefgbgaa.PFragL
open Go.RowKit Go.Proofs.YtfmfpofbefgbgaaW.PrintWords Go.Proofs.YtfmfpofbefgbgaaW.PrintLast Go.Proofs.YtfmfpofbefgbgaaW.PrintMore Go.Proofs.Ytfmfpofbefgbgaa.PFrb Go.Proofs.Ytfmfpofbefgbgaa.HCar Go.Proofs.Ytfmfpofbefgbgaa.HSplit
set_option linter.unusedVariables false
set_option linter.unusedSimpArgs false
def towropelaw11_FragHolds.f (a0_0 : Int) (a0_1 : Int) (a0_2 : Bool) (a0_3 : Bool) (a0_4 : Int) (a0_5 : Int) (a0_6 : Int) (a0_7 : Int) (a0_8 : Int) (l0_9 : List Int) (l0_10 : List Int) (a1 : Int) : Option (Bool) := if HCar.bytes l0_9 = true then some true else none
theorem towropelaw11_FragHolds.calls (a0_0 : Int) (a0_1 : Int) (a0_2 : Bool) (a0_3 : Bool) (a0_4 : Int) (a0_5 : Int) (a0_6 : Int) (a0_7 : Int) (a0_8 : Int) (A0_9 : Option Addr) (c0_9 : Nat) (l0_9 : List Int) (A0_10 : Option Addr) (c0_10 : Nat) (l0_10 : List Int) (a1 : Int) (r : Bool) (w : World) (hr0_9 : Kd.C (Kd.int .u8) w A0_9 l0_9.length l0_9) (hc0_9 : l0_9.length ≤ c0_9) (hr0_10 : Kd.C (Kd.int .u8) w A0_10 l0_10.length l0_10) (hc0_10 : l0_10.length ≤ c0_10) (h : towropelaw11_FragHolds.f a0_0 a0_1 a0_2 a0_3 a0_4 a0_5 a0_6 a0_7 a0_8 l0_9 l0_10 a1 = some r) :
    Calls Try.prog 8 #[.agg #[.int .u8 a0_0, .int .u16 a0_1, .bool a0_2, .bool a0_3, .int .i64 a0_4, .int .u8 a0_5, .int .u8 a0_6, .int .u32 a0_7, .int .u32 a0_8, .slice A0_9 l0_9.length c0_9, .slice A0_10 l0_10.length c0_10], .int .i64 a1] w fun e w' => e = .returned (.bool r) ∧ Below w.heap.size w w' := by
  unfold towropelaw11_FragHolds.f at h
  by_cases hb : HCar.bytes l0_9 = true
  · rw [if_pos hb] at h
    obtain rfl := Option.some.inj h
    cases hl : longF ⟨a0_0, a0_1, a0_2, a0_3, a0_4, a0_5, a0_6, a0_7, a0_8, l0_9, l0_10⟩ with
    | true => exact holds_long a0_0 a0_1 a0_2 a0_3 a0_4 a0_5 a0_6 a0_7 a0_8 A0_9 _ c0_9 l0_9 A0_10 _ c0_10 l0_10 a1 w rfl hr0_9 hc0_9 rfl hr0_10 hc0_10 hl
    | false =>
      by_cases he : (splitT ⟨a0_0, a0_1, a0_2, a0_3, a0_4, a0_5, a0_6, a0_7, a0_8, l0_9, l0_10⟩ a1).2 = 0
      · exact holds_good a0_0 a0_1 a0_2 a0_3 a0_4 a0_5 a0_6 a0_7 a0_8 A0_9 _ c0_9 l0_9 A0_10 _ c0_10 l0_10 a1 w rfl hr0_9 hc0_9 rfl hr0_10 hc0_10 hl hb he
      · exact holds_err a0_0 a0_1 a0_2 a0_3 a0_4 a0_5 a0_6 a0_7 a0_8 A0_9 _ c0_9 l0_9 A0_10 _ c0_10 l0_10 a1 w rfl hr0_9 hc0_9 rfl hr0_10 hc0_10 hl hb he
  · rw [if_neg hb] at h; cases h
end Go.Proofs.Ytfmfpofbefgbgaa.PFragL
