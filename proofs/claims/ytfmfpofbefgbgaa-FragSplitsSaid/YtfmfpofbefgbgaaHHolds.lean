/- FragHolds: what is too long, and what Split refuses. Conditions: each theorem's own. -/
import Derived.Test.YtfmfpofbefgbgaaHSplit5
import Derived.Test.YtfmfpofbefgbgaaPFrbx5
import Derived.Test.YtfmfpofbefgbgaaPFragLx0
namespace Go.Proofs.Ytfmfpofbefgbgaa.HSplit
open Go.RowKit Go.Proofs.YtfmfpofbefgbgaaW.PrintWords Go.Proofs.YtfmfpofbefgbgaaW.PrintLast Go.Proofs.YtfmfpofbefgbgaaW.PrintMore Go.Proofs.Ytfmfpofbefgbgaa.PFrb Go.Proofs.Ytfmfpofbefgbgaa.HCar
set_option linter.unusedVariables false
set_option linter.unusedSimpArgs false
def longF (p : S68) : Bool := decide ((p.f9.length : Int) > 100 ∨ (p.f10.length : Int) > 70000)
theorem long_f (a0 a1 : Int) (a2 a3 : Bool) (a4 a5 a6 a7 a8 : Int) (l9 l10 : List Int) : towroperef06_Long.f a0 a1 a2 a3 a4 a5 a6 a7 a8 l9 l10 = some (longF ⟨a0, a1, a2, a3, a4, a5, a6, a7, a8, l9, l10⟩) := by
  unfold towroperef06_Long.f longF
  split
  · rename_i h; rw [decide_eq_true (.inl h)]
  · rename_i h; simp [h]
set_option maxRecDepth 100000 in
set_option maxHeartbeats 8000000 in
theorem holds_long (a0 a1 : Int) (a2 a3 : Bool) (a4 a5 a6 a7 a8 : Int) (A9 : Option Addr) (N9 c9 : Nat) (l9 : List Int) (A10 : Option Addr) (N10 c10 : Nat) (l10 : List Int) (mtu : Int) (w : World)
    (hn9 : l9.length = N9) (hr9 : Kd.C (Kd.int .u8) w A9 N9 l9) (hc9 : N9 ≤ c9) (hn10 : l10.length = N10) (hr10 : Kd.C (Kd.int .u8) w A10 N10 l10) (hc10 : N10 ≤ c10) (hlong : longF ⟨a0, a1, a2, a3, a4, a5, a6, a7, a8, l9, l10⟩ = true) :
    Calls Try.prog 8 #[.agg #[.int .u8 a0, .int .u16 a1, .bool a2, .bool a3, .int .i64 a4, .int .u8 a5, .int .u8 a6, .int .u32 a7, .int .u32 a8, .slice A9 N9 c9, .slice A10 N10 c10], .int .i64 mtu] w fun e w' => e = .returned (.bool true) ∧ Below w.heap.size w w' := by
  have hL := fun (W : World) (hW : Below w.heap.size w W) => towroperef06_Long.calls a0 a1 a2 a3 a4 a5 a6 a7 a8 A9 c9 l9 A10 c10 l10 _ W (by rw [hn9]; exact Kd.C_below hr9 hW) (by rw [hn9]; exact hc9) (by rw [hn10]; exact Kd.C_below hr10 hW) (by rw [hn10]; exact hc10) (long_f a0 a1 a2 a3 a4 a5 a6 a7 a8 l9 l10)
  rw [hlong, hn9, hn10] at hL
  have HL := Aside0.mk hL
  have HA := Aside0.mk (below_alloc (Below.refl w.heap.size w) (.cells #[.int .u8 a0, .int .u16 a1, .bool a2, .bool a3, .int .i64 a4, .int .u8 a5, .int .u8 a6, .int .u32 a7, .int .u32 a8, .slice A9 N9 c9, .slice A10 N10 c10] 68))
  clear hn9 hr9 hc9 hn10 hr10 hc10 hlong hL
  go_enter Try.func8, Try.ntmps8
  go_wp2_with (first | (go_at_call 39; (with_reducible refine (HL.out _ HA.out).mono ?_); rintro e2 w2 ⟨rfl, hB⟩; have HB := Aside0.mk (below_step HA.out hB); clear hB; dsimp only) | (go_at_call 35; (with_reducible refine (PFragL.live_calls _).mono ?_); rintro e3 w3 ⟨rfl, hB⟩; replace HB := Aside0.mk (below_step HB.out hB); clear hB; dsimp only))
  go_ret
  exact ⟨rfl, HB.out⟩
set_option maxRecDepth 100000 in
set_option maxHeartbeats 8000000 in
theorem holds_err (a0 a1 : Int) (a2 a3 : Bool) (a4 a5 a6 a7 a8 : Int) (A9 : Option Addr) (N9 c9 : Nat) (l9 : List Int) (A10 : Option Addr) (N10 c10 : Nat) (l10 : List Int) (mtu : Int) (w : World)
    (hn9 : l9.length = N9) (hr9 : Kd.C (Kd.int .u8) w A9 N9 l9) (hc9 : N9 ≤ c9) (hn10 : l10.length = N10) (hr10 : Kd.C (Kd.int .u8) w A10 N10 l10) (hc10 : N10 ≤ c10) (hlong : longF ⟨a0, a1, a2, a3, a4, a5, a6, a7, a8, l9, l10⟩ = false) (hb : HCar.bytes l9 = true) (he : (splitT ⟨a0, a1, a2, a3, a4, a5, a6, a7, a8, l9, l10⟩ mtu).2 ≠ 0) :
    Calls Try.prog 8 #[.agg #[.int .u8 a0, .int .u16 a1, .bool a2, .bool a3, .int .i64 a4, .int .u8 a5, .int .u8 a6, .int .u32 a7, .int .u32 a8, .slice A9 N9 c9, .slice A10 N10 c10], .int .i64 mtu] w fun e w' => e = .returned (.bool true) ∧ Below w.heap.size w w' := by
  have hfit : Fit ⟨a0, a1, a2, a3, a4, a5, a6, a7, a8, l9, l10⟩ := by
    have := of_decide_eq_false hlong
    simp only at this
    exact ⟨by show l9.length ≤ 100000; omega, by show l10.length ≤ 100000; omega⟩
  have hL := fun (W : World) (hW : Below w.heap.size w W) => towroperef06_Long.calls a0 a1 a2 a3 a4 a5 a6 a7 a8 A9 c9 l9 A10 c10 l10 _ W (by rw [hn9]; exact Kd.C_below hr9 hW) (by rw [hn9]; exact hc9) (by rw [hn10]; exact Kd.C_below hr10 hW) (by rw [hn10]; exact hc10) (long_f a0 a1 a2 a3 a4 a5 a6 a7 a8 l9 l10)
  rw [hlong, hn9, hn10] at hL
  have HL := Aside0.mk hL
  have hS := fun (w' : World) (hB : Below w.heap.size w w') => split_any a0 a1 a2 a3 a4 a5 a6 a7 a8 A9 N9 c9 l9 A10 N10 c10 l10 mtu w' hn9 (Kd.C_below hr9 hB) hc9 hn10 (Kd.C_below hr10 hB) hc10 hfit hb
  have hbad := split_bad _ _ he
  generalize splitT ⟨a0, a1, a2, a3, a4, a5, a6, a7, a8, l9, l10⟩ mtu = RES at *
  obtain ⟨rl, re⟩ := RES
  simp only at hbad he
  subst hbad
  have b1 : (re != 0) = true := bne_iff_ne.2 he
  have HS := Aside0.mk hS
  have HA := Aside0.mk (below_alloc (Below.refl w.heap.size w) (.cells #[.int .u8 a0, .int .u16 a1, .bool a2, .bool a3, .int .i64 a4, .int .u8 a5, .int .u8 a6, .int .u32 a7, .int .u32 a8, .slice A9 N9 c9, .slice A10 N10 c10] 68))
  have HGP := Aside0.mk (blk_new w (.cells #[.int .u8 a0, .int .u16 a1, .bool a2, .bool a3, .int .i64 a4, .int .u8 a5, .int .u8 a6, .int .u32 a7, .int .u32 a8, .slice A9 N9 c9, .slice A10 N10 c10] 68))
  clear hn9 hr9 hc9 hn10 hr10 hc10 hlong hL hS hfit hb he
  go_enter Try.func8, Try.ntmps8
  go_upto_region 1 with (fail)
  obtain ⟨gp, hgp⟩ : ∃ gp, gp = w.heap.size := ⟨_, rfl⟩
  have HGE := Aside0.mk hgp
  rw [← hgp] at HGP ⊢
  clear hgp
  generalize w.alloc (.cells #[.int .u8 a0, .int .u16 a1, .bool a2, .bool a3, .int .i64 a4, .int .u8 a5, .int .u8 a6, .int .u32 a7, .int .u32 a8, .slice A9 N9 c9, .slice A10 N10 c10] 68) = w1 at HA HGP ⊢
  have p0 := (blk_cell HGP.out 0).trans rfl; have p1 := (blk_cell HGP.out 1).trans rfl; have p2 := (blk_cell HGP.out 2).trans rfl; have p3 := (blk_cell HGP.out 3).trans rfl; have p4 := (blk_cell HGP.out 4).trans rfl; have p5 := (blk_cell HGP.out 5).trans rfl; have p6 := (blk_cell HGP.out 6).trans rfl; have p7 := (blk_cell HGP.out 7).trans rfl; have p8 := (blk_cell HGP.out 8).trans rfl; have p9 := (blk_cell HGP.out 9).trans rfl; have p10 := (blk_cell HGP.out 10).trans rfl
  go_wp2_with (first | (go_at_call 39; (with_reducible refine (HL.out _ HA.out).mono ?_); rintro e2 w2 ⟨rfl, hB⟩; replace HA := Aside0.mk (below_step HA.out hB); replace HGP := Aside0.mk (blk_below HGP.out hB); clear hB p0 p1 p2 p3 p4 p5 p6 p7 p8 p9 p10; have p0 := (blk_cell HGP.out 0).trans rfl; have p1 := (blk_cell HGP.out 1).trans rfl; have p2 := (blk_cell HGP.out 2).trans rfl; have p3 := (blk_cell HGP.out 3).trans rfl; have p4 := (blk_cell HGP.out 4).trans rfl; have p5 := (blk_cell HGP.out 5).trans rfl; have p6 := (blk_cell HGP.out 6).trans rfl; have p7 := (blk_cell HGP.out 7).trans rfl; have p8 := (blk_cell HGP.out 8).trans rfl; have p9 := (blk_cell HGP.out 9).trans rfl; have p10 := (blk_cell HGP.out 10).trans rfl; dsimp only) | (go_at_call 40; (with_reducible refine (HS.out _ HA.out).mono ?_); rintro e2 w2 ⟨v2, rfl, hR, hB⟩; obtain ⟨A2, c2, rfl⟩ := Kd.R_slice hR; replace HA := Aside0.mk (below_step HA.out hB); clear hR hB; dsimp only) | (go_at_call 38; (with_reducible refine (PFragL.code_calls _ _).mono ?_); rintro e2 w2 ⟨rfl, rfl⟩; dsimp only) | (go_at_call 35; (with_reducible refine (PFragL.live_calls _).mono ?_); rintro e3 w3 ⟨rfl, hB⟩; replace HA := Aside0.mk (below_step HA.out hB); clear hB; dsimp only))
  go_ret
  exact ⟨rfl, HA.out⟩
end Go.Proofs.Ytfmfpofbefgbgaa.HSplit
