/- pool's reference: a pool as a value; State. Conditions: each theorem's own. -/
import Derived.Test.YtfmfpofbefgbgaaHPoolR2
import Derived.Laws.Tables
namespace Go.Proofs.Ytfmfpofbefgbgaa.HPoolR
open Go.RowKit Go.Proofs.YtfmfpofbefgbgaaW.PrintWords Go.Proofs.YtfmfpofbefgbgaaW.PrintLast Go.Proofs.YtfmfpofbefgbgaaW.PrintMore Go.Proofs.Ytfmfpofbefgbgaa.HPoolS Go.Proofs.Ytfmfpofbefgbgaa.HPool Go.Proofs.Ytfmfpofbefgbgaa.PPoolL Go.Proofs.Ytfmfpofbefgbgaa.HReg Go.Proofs.Ytfmfpofbefgbgaa.HSl
set_option linter.unusedVariables false
set_option linter.unusedSimpArgs false
set_option linter.unusedSectionVars false
theorem info93 : (Try.prog.info? 93).map (·.size) = some 32 := by kernel_rfl
/-- A pool of the document: a value of 32 cells. -/
structure Rf (w : World) (cells : Array Value) (r : RS) : Prop where
  sz : cells.size = 32
  F : ∀ i, i < 16 → ∃ v, cells[2 * i]? = some v ∧ Rb w v (r i).1
  O : ∀ i, i < 16 → ∃ v, cells[2 * i + 1]? = some v ∧ Rb w v (r i).2
section
variable {w w' : World} {cells : Array Value} {r : RS}
theorem Rf.below (h : Rf w cells r) (hb : Below w.heap.size w w') : Rf w' cells r := ⟨h.sz, fun i hi => by obtain ⟨v, e, hv⟩ := h.F i hi; exact ⟨v, e, hv.below hb⟩, fun i hi => by obtain ⟨v, e, hv⟩ := h.O i hi; exact ⟨v, e, hv.below hb⟩⟩
theorem Rf.kq (h : Rf w cells r) (hb : Kq w w') : Rf w' cells r := ⟨h.sz, fun i hi => by obtain ⟨v, e, hv⟩ := h.F i hi; exact ⟨v, e, hv.kq hb⟩, fun i hi => by obtain ⟨v, e, hv⟩ := h.O i hi; exact ⟨v, e, hv.kq hb⟩⟩
theorem Rf.one (h : Rf w cells r) : cells.all (·.oneCell') = true := by
  rw [Array.all_eq_true]
  intro j hj
  have hs := h.sz
  rcases Nat.mod_two_eq_zero_or_one j with e | e
  · obtain ⟨v, e1, hv⟩ := h.F (j / 2) (by omega)
    rw [show 2 * (j / 2) = j by omega, Array.getElem?_eq_getElem hj] at e1
    injection e1 with e1
    rw [e1]; exact hv.one
  · obtain ⟨v, e1, hv⟩ := h.O (j / 2) (by omega)
    rw [show 2 * (j / 2) + 1 = j by omega, Array.getElem?_eq_getElem hj] at e1
    injection e1 with e1
    rw [e1]; exact hv.one
theorem Rf.setF (h : Rf w cells r) {i : Nat} (hi : i < 16) {v : Value} {x : List Bu} (hv : Rb w v x) : Rf w (cells.setIfInBounds (2 * i) v) (at_ r i (x, (r i).2)) := by
  refine ⟨by rw [Array.size_setIfInBounds, h.sz], fun j hj => ?_, fun j hj => ?_⟩
  · rw [Array.getElem?_setIfInBounds]
    by_cases e : j = i
    · subst e; rw [if_pos rfl, if_pos (by rw [h.sz]; omega), at_eq]; exact ⟨v, rfl, hv⟩
    · rw [if_neg (by omega), at_ne _ _ e]; exact h.F j hj
  · rw [Array.getElem?_setIfInBounds, if_neg (by omega)]
    by_cases e : j = i
    · subst e; rw [at_eq]; exact h.O j hj
    · rw [at_ne _ _ e]; exact h.O j hj
theorem Rf.setO (h : Rf w cells r) {i : Nat} (hi : i < 16) {v : Value} {x : List Bu} (hv : Rb w v x) : Rf w (cells.setIfInBounds (2 * i + 1) v) (at_ r i ((r i).1, x)) := by
  refine ⟨by rw [Array.size_setIfInBounds, h.sz], fun j hj => ?_, fun j hj => ?_⟩
  · rw [Array.getElem?_setIfInBounds, if_neg (by omega)]
    by_cases e : j = i
    · subst e; rw [at_eq]; exact h.F j hj
    · rw [at_ne _ _ e]; exact h.F j hj
  · rw [Array.getElem?_setIfInBounds]
    by_cases e : j = i
    · subst e; rw [if_pos rfl, if_pos (by rw [h.sz]; omega), at_eq]; exact ⟨v, rfl, hv⟩
    · rw [if_neg (by omega), at_ne _ _ e]; exact h.O j hj
theorem load93 (h : cells.size = 32) {g : Nat} (hg : w.heap[g]? = some (.cells cells 93 (0, 0))) : (loadVar 93 ⟨g, 0, none⟩).run Try.prog w = .ok (.agg cells) w :=
  run_loadVar_row (P := Try.prog) w g 93 93 cells (0, 0) _ hg Try.underlying93 rfl (by rw [info93, h])
theorem store93 (h : cells.size = 32) (h1 : cells.all (·.oneCell') = true) {g : Nat} {old : Array Value} (ho : old.size = 32) (hg : w.heap[g]? = some (.cells old 93 (0, 0))) : (storeVar 93 ⟨g, 0, none⟩ (.agg cells)).run Try.prog w = .ok () (w.setRow g cells) :=
  run_storeVar_row (P := Try.prog) w g 93 93 old cells hg (by rw [info93, h]) (by rw [ho, h]) h1
end
theorem plc_geq (l : List Bu) (x : Int) : (decide (0 ≤ plc l x)) = has l x := by
  unfold plc
  cases has l x
  · rfl
  · simp
set_option maxRecDepth 100000 in
set_option maxHeartbeats 4000000 in
theorem rstate_calls (cells : Array Value) (r : RS) (w : World) (h : Rf w cells r) (hl : ∀ i, i < 16 → (r i).1.length ≤ 5000 ∧ (r i).2.length ≤ 5000) (g id : Int) : Calls Try.prog 56 #[.agg cells, .int .i64 g, .int .i64 id] w fun e w' => e = .returned (.int .i64 (stR r g id)) ∧ Below w.heap.size w w' := by
  have HR := Aside0.mk h
  have HL := Aside0.mk hl
  have HB := Aside0.mk (below_alloc (Below.refl w.heap.size w) (.cells cells 93))
  have HG := Aside0.mk (blk_new w (.cells cells 93))
  clear h hl
  by_cases c1 : g < 0
  · have d1 : decide (g < 0) = true := decide_eq_true c1
    have e : stR r g id = 0 := if_pos (.inl c1)
    rw [e]
    clear c1 e
    go_enter Try.func56, Try.ntmps56
    go_wp2
    go_ret
    exact ⟨rfl, HB.out⟩
  have d1 : decide (g < 0) = false := decide_eq_false c1
  by_cases c2 : 15 < g
  · have d2 : decide (15 < g) = true := decide_eq_true c2
    have e : stR r g id = 0 := if_pos (.inr c2)
    rw [e]
    clear c1 c2 e
    go_enter Try.func56, Try.ntmps56
    go_wp2
    go_ret
    exact ⟨rfl, HB.out⟩
  obtain ⟨i, rfl, hi⟩ := nat_of (g := g) (fun e => e.elim c1 c2)
  have d2 : decide (15 < (i : Int)) = false := decide_eq_false c2
  have d3 : decide ((i : Int) < 16) = true := decide_eq_true (by omega)
  have d4 : decide (i < 16) = true := decide_eq_true hi
  have d5 : (i < 16) = True := eq_true hi
  have d6 : i * 2 = 2 * i := Nat.mul_comm _ _
  have d7 : ((i : Int) < 16) = True := eq_true (by omega)
  have d8 : (0 ≤ (i : Int)) = True := eq_true (by omega)
  obtain ⟨vF, eF, hF⟩ := HR.out.F i hi
  obtain ⟨vO, eO, hO⟩ := HR.out.O i hi
  obtain ⟨A1, cF, rfl, -, -⟩ := hF.shape
  obtain ⟨A2, cO, rfl, -, -⟩ := hO.shape
  have hs : stR r i id = if has (r i).1 id then 1 else if has (r i).2 id then 2 else 0 := by
    unfold stR
    rw [if_neg (fun e => e.elim c1 c2)]
    rfl
  rw [hs]
  have p1 : decide (0 ≤ plc (r i).1 id) = has (r i).1 id := plc_geq _ _
  have p2 : decide (0 ≤ plc (r i).2 id) = has (r i).2 id := plc_geq _ _
  have HC1 := Aside0.mk (place_calls A1 _ cF _ rfl (HL.out i hi).1 id _ (hF.below HB.out))
  have HC2 := Aside0.mk (place_calls A2 _ cO _ rfl (HL.out i hi).2 id _ (hO.below HB.out))
  have hcF := (blk_cell HG.out (2 * i)).trans eF
  have hcO := (blk_cell HG.out (2 * i + 1)).trans eO
  clear hs c1 c2 hF hO eF eO hi
  generalize plc (r i).1 id = q1 at p1 HC1
  generalize plc (r i).2 id = q2 at p2 HC2
  generalize (r i).1.length = n1 at hcF HC1
  generalize (r i).2.length = n2 at hcO HC2
  generalize has (r i).1 id = t1 at p1 ⊢
  generalize has (r i).2 id = t2 at p2 ⊢
  go_enter Try.func56, Try.ntmps56
  go_upto_region 1 with (fail)
  have hlt := blk_lt HG.out
  generalize w.alloc (.cells cells 93) = w1 at HB HG HC1 HC2 hcF hcO hlt ⊢
  obtain ⟨gb, hgb⟩ : ∃ gb, gb = w.heap.size := ⟨_, rfl⟩
  rw [← hgb] at HG hcF hcO hlt ⊢
  clear hgb
  cases t1
  · cases t2
    · go_wp2_with (first | (go_at_call 78; have hh := HC1.out; with_reducible refine hh.mono ?_; clear hh; rintro e w9 ⟨rfl, rfl⟩) | (go_at_call 78; have hh := HC2.out; with_reducible refine hh.mono ?_; clear hh; rintro e w9 ⟨rfl, rfl⟩))
      go_ret
      exact ⟨rfl, HB.out⟩
    · go_wp2_with (first | (go_at_call 78; have hh := HC1.out; with_reducible refine hh.mono ?_; clear hh; rintro e w9 ⟨rfl, rfl⟩) | (go_at_call 78; have hh := HC2.out; with_reducible refine hh.mono ?_; clear hh; rintro e w9 ⟨rfl, rfl⟩))
      go_ret
      exact ⟨rfl, HB.out⟩
  · go_wp2_with (go_at_call 78; refine HC1.out.mono ?_; rintro e w9 ⟨rfl, rfl⟩)
    go_ret
    exact ⟨rfl, HB.out⟩
end Go.Proofs.Ytfmfpofbefgbgaa.HPoolR
