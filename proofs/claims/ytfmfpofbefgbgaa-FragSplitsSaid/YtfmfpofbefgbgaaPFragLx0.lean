/- The laws of frag: live. Conditions: each theorem's own. -/
import Derived.Test.YtfmfpofbefgbgaaHSplit2
namespace Go.Proofs.Ytfmfpofbefgbgaa.PFragL
open Go.RowKit Go.Proofs.YtfmfpofbefgbgaaW.PrintWords Go.Proofs.YtfmfpofbefgbgaaW.PrintLast Go.Proofs.YtfmfpofbefgbgaaW.PrintMore Go.Proofs.Ytfmfpofbefgbgaa.PFrb Go.Proofs.Ytfmfpofbefgbgaa.HCar Go.Proofs.Ytfmfpofbefgbgaa.HSplit
set_option linter.unusedVariables false
set_option linter.unusedSimpArgs false
def p0 : S68 := ⟨0, 0, false, false, 0, 0, 0, 0, 0, [], List.replicate 100 0⟩
theorem car0 : HCar.carF (fun l => octet_Pad.f 70 l 4) [] = some ([], 0) := by
  unfold HCar.carF
  rw [if_pos (by rfl), if_neg (by decide), car_nil]
  rfl
def x0 : S68 := ⟨0, 0, false, true, 0, 0, 0, 0, 0, [], List.replicate 48 0⟩
def x1 : S68 := ⟨0, 0, false, true, 6, 0, 0, 0, 0, [], List.replicate 48 0⟩
def x2 : S68 := ⟨0, 0, false, false, 12, 0, 0, 0, 0, [], List.replicate 4 0⟩
set_option maxRecDepth 100000 in
theorem split0 : splitF p0 68 [] 0 = ([x0, x1, x2], 0) := by kernel_rfl
theorem three {w : World} {base : Nat} {v : Value} (h : Kd.R k68 68 w base (fun _ => True) v [x0, x1, x2]) : ∃ (g c : Nat) (A0 A2 : Option Addr) (d0 d2 : Nat), v = .slice (some ⟨g, 0, none⟩) 3 c ∧ w.cell? ⟨g, 10, none⟩ = some (.slice A0 48 d0) ∧ w.cell? ⟨g, 15, none⟩ = some (.int .i64 6) ∧ w.cell? ⟨g, 32, none⟩ = some (.slice A2 4 d2) ∧ w.cell? ⟨g, 14, none⟩ = some (.bool true) ∧ w.cell? ⟨g, 25, none⟩ = some (.bool false) := by
  have h' := h
  obtain ⟨-, inner, hown, -⟩ := h'
  obtain ⟨g, c, rfl⟩ : ∃ g c, v = .slice (some ⟨g, 0, none⟩) 3 c := by
    obtain ⟨-, ⟨-, h0⟩ | ⟨g, cap, cur, e, -⟩⟩ := hown
    · cases h0
    · exact ⟨g, cap, e⟩
  have hC := (Kd.R_reads' h).2.2
  obtain ⟨ad, A9, c9, A10, c10, e, -, -, -, -, -, -, -, -, -, -, f0, -⟩ := at_T68 hC 0 (by decide) (by decide)
  injection e with e
  subst e
  obtain ⟨ad, B9, d9, B10, d10, e, -, -, -, g3, g4, -⟩ := at_T68 hC 1 (by decide) (by decide)
  injection e with e
  subst e
  obtain ⟨ad, C9, e9, C10, e10, e, -, -, -, k3, -, -, -, -, -, -, k10, -⟩ := at_T68 hC 2 (by decide) (by decide)
  injection e with e
  subst e
  refine ⟨g, c, A10, C10, c10, e10, rfl, ?_, ?_, ?_, ?_, ?_⟩
  · have t := f0; simp only [Addr.add_lit, List.getElem_cons_zero, List.getElem_cons_succ] at t; first | exact t | (simpa [Addr.add_lit, rd_T68, x0, x1, x2] using t)
  · have t := g4; simp only [Addr.add_lit, List.getElem_cons_zero, List.getElem_cons_succ] at t; first | exact t | (simpa [Addr.add_lit, rd_T68, x0, x1, x2] using t)
  · have t := k10; simp only [Addr.add_lit, List.getElem_cons_zero, List.getElem_cons_succ] at t; first | exact t | (simpa [Addr.add_lit, rd_T68, x0, x1, x2] using t)
  · have t := g3; simp only [Addr.add_lit, List.getElem_cons_zero, List.getElem_cons_succ] at t; first | exact t | (simpa [Addr.add_lit, rd_T68, x0, x1, x2] using t)
  · have t := k3; simp only [Addr.add_lit, List.getElem_cons_zero, List.getElem_cons_succ] at t; first | exact t | (simpa [Addr.add_lit, rd_T68, x0, x1, x2] using t)
theorem split_live (A1 : Option Addr) (c1 : Nat) (w1 : World) (hc : 100 ≤ c1) (hC : (Kd.int .u8).C w1 A1 100 (List.replicate 100 0)) :
    Calls Try.prog 40 #[.agg #[.int .u8 0, .int .u16 0, .bool false, .bool false, .int .i64 0, .int .u8 0, .int .u8 0, .int .u32 0, .int .u32 0, .slice none 0 0, .slice A1 100 c1], .int .i64 68] w1 fun e w' => ∃ (g c : Nat) (A0 A2 : Option Addr) (d0 d2 : Nat), e = .returned (.tuple #[.slice (some ⟨g, 0, none⟩) 3 c, .int .i64 0]) ∧ w'.cell? ⟨g, 10, none⟩ = some (.slice A0 48 d0) ∧ w'.cell? ⟨g, 15, none⟩ = some (.int .i64 6) ∧ w'.cell? ⟨g, 32, none⟩ = some (.slice A2 4 d2) ∧ w'.cell? ⟨g, 14, none⟩ = some (.bool true) ∧ w'.cell? ⟨g, 25, none⟩ = some (.bool false) ∧ Below w1.heap.size w1 w' := by
  have hh := split_many 0 0 false 0 0 0 0 0 none 0 0 [] A1 100 c1 (List.replicate 100 0) 68 [] w1 rfl (Kd.C_nil _ _) (Nat.le_refl _) (List.length_replicate ..) hC hc (show ([] : List Int).length ≤ 100000 ∧ (List.replicate 100 (0 : Int)).length ≤ 100000 from ⟨by decide, by rw [List.length_replicate]; decide⟩) (by kernel_rfl) (by decide) (by show ¬ (20 + (([] : List Int).length : Int) + ((List.replicate 100 (0 : Int)).length : Int) ≤ 68); rw [List.length_replicate]; decide) car0 (by decide)
  rw [show splitF (S68.mk 0 0 false false 0 0 0 0 0 [] (List.replicate 100 0)) 68 [] 0 = ([x0, x1, x2], 0) from split0] at hh
  refine hh.mono ?_
  rintro e2 w2 ⟨v2, rfl, hR, hB⟩
  obtain ⟨g, c2, A0, A2, d0, d2, rfl, f0, f1, f2, f3, f4⟩ := three hR
  exact ⟨g, c2, A0, A2, d0, d2, rfl, f0, f1, f2, f3, f4, hB⟩
theorem code_calls (a : Int) (w : World) : Calls Try.prog 38 #[.int .i64 a] w fun e w' => e = .returned (.int .i64 a) ∧ w = w' := by
  go_enter Try.func38, Try.ntmps38
  go_wp2
  go_ret
  exact ⟨rfl, rfl⟩
set_option maxRecDepth 100000 in
set_option maxHeartbeats 8000000 in
theorem live_calls (w : World) : Calls Try.prog 35 #[] w fun e w' => e = .returned (.bool true) ∧ Below w.heap.size w w' := by
  have HB := Aside0.mk (Below.refl w.heap.size w)
  go_enter Try.func35, Try.ntmps35
  go_upto_region 2 with (first | ((with_reducible refine gate_dst (N := 4) rfl ?_); refine Kd.R_make (Kd.int .u8) (w0 := w) w.heap.size 5 rfl (N := 4) rfl 23 _ _ rfl (100 : Int) rfl rfl Try.underlying23 (.int .u8 0) 1 HCar.info5 rfl (by decide) (by omega) 0 (ok := fun _ => True) (okp := fun _ => True) rfl (fun _ hk => hk) trivial (by omega) (by omega) HB.out (Nat.le_refl _) ?_; intro v1 w1 ho hb hg hnew; obtain ⟨A1, c1, rfl⟩ := Kd.R_slice ho; have HO := Aside0.mk (Kd.R_reads' ho); replace HB := Aside0.mk hb; rw [List.length_replicate] at HO ⊢; replace HO := Aside0.mk (show 100 ≤ c1 ∧ (Kd.int .u8).C w1 A1 100 (List.replicate 100 0) from ⟨HO.out.2.1, HO.out.2.2⟩); clear ho hb hg hnew) | (go_at_call 40; with_reducible refine (split_live A1 c1 _ HO.out.1 HO.out.2).mono ?_; rintro e2 w2 ⟨g, c2, A0, A2, d0, d2, rfl, f0, f1, f2, f3, f4, hB⟩; replace HB := Aside0.mk (below_step HB.out hB); clear hB))
  go_wp2_with (go_at_call 38; with_reducible refine (code_calls _ _).mono ?_; rintro e w9 ⟨rfl, rfl⟩)
  go_ret

  exact ⟨rfl, HB.out⟩
end Go.Proofs.Ytfmfpofbefgbgaa.PFragL
