/- frag.Many: its walk. Conditions: each theorem's own. -/
import Derived.Test.YtfmfpofbefgbgaaHSplit3
namespace Go.Proofs.Ytfmfpofbefgbgaa.HSplit
open Go.RowKit Go.Proofs.YtfmfpofbefgbgaaW.PrintWords Go.Proofs.YtfmfpofbefgbgaaW.PrintLast Go.Proofs.YtfmfpofbefgbgaaW.PrintMore Go.Proofs.Ytfmfpofbefgbgaa.PFrb Go.Proofs.Ytfmfpofbefgbgaa.HCar
set_option linter.unusedVariables false
set_option linter.unusedSimpArgs false
set_option maxRecDepth 100000 in
set_option maxHeartbeats 8000000 in
theorem many_calls (a0 a1 : Int) (a2 a3 : Bool) (a4 a5 a6 a7 a8 : Int) (A9 : Option Addr) (N9 c9 : Nat) (l9 : List Int) (A10 : Option Addr) (N10 c10 : Nat) (l10 : List Int) (mtu : Int) (w : World)
    (hn9 : l9.length = N9) (hr9 : Kd.C (Kd.int .u8) w A9 N9 l9) (hc9 : N9 ≤ c9) (hn10 : l10.length = N10) (hr10 : Kd.C (Kd.int .u8) w A10 N10 l10) (hc10 : N10 ≤ c10) (hfit : Fit ⟨a0, a1, a2, a3, a4, a5, a6, a7, a8, l9, l10⟩) (hb : HCar.bytes l9 = true) :
    Calls Try.prog 44 #[.agg #[.int .u8 a0, .int .u16 a1, .bool a2, .bool a3, .int .i64 a4, .int .u8 a5, .int .u8 a6, .int .u32 a7, .int .u32 a8, .slice A9 N9 c9, .slice A10 N10 c10], .int .i64 mtu] w fun e w' => e = .returned (.tuple #[.int .i64 ((splitT ⟨a0, a1, a2, a3, a4, a5, a6, a7, a8, l9, l10⟩ mtu).1.length : Int), .int .i64 (splitT ⟨a0, a1, a2, a3, a4, a5, a6, a7, a8, l9, l10⟩ mtu).2]) ∧ Below w.heap.size w w' := by
  have HH := Aside0.mk (fun (w' : World) (hB : Below w.heap.size w w') => split_any a0 a1 a2 a3 a4 a5 a6 a7 a8 A9 N9 c9 l9 A10 N10 c10 l10 mtu w' hn9 (Kd.C_below hr9 hB) hc9 hn10 (Kd.C_below hr10 hB) hc10 hfit hb)
  have HA := Aside0.mk (below_alloc (Below.refl w.heap.size w) (.cells #[.int .u8 a0, .int .u16 a1, .bool a2, .bool a3, .int .i64 a4, .int .u8 a5, .int .u8 a6, .int .u32 a7, .int .u32 a8, .slice A9 N9 c9, .slice A10 N10 c10] 68))
  generalize splitT ⟨a0, a1, a2, a3, a4, a5, a6, a7, a8, l9, l10⟩ mtu = RES at *
  obtain ⟨rl, re⟩ := RES
  clear hn9 hr9 hc9 hn10 hr10 hc10 hfit hb
  go_enter Try.func44, Try.ntmps44
  go_wp2_with (go_at_call 40; (with_reducible refine (HH.out _ HA.out).mono ?_); rintro e2 w2 ⟨v2, rfl, hR, hB⟩; obtain ⟨A2, c2, rfl⟩ := Kd.R_slice hR; have HB := Aside0.mk (below_step HA.out hB); clear hR hB; dsimp only)
  go_ret2
  exact ⟨rfl, HB.out⟩
end Go.Proofs.Ytfmfpofbefgbgaa.HSplit
