/- pool's reference: Remove, Take, Give of a group. Conditions: each theorem's own. -/
import Derived.Test.YtfmfpofbefgbgaaHPoolR4
namespace Go.Proofs.Ytfmfpofbefgbgaa.HPoolR
open Go.RowKit Go.Proofs.YtfmfpofbefgbgaaW.PrintWords Go.Proofs.YtfmfpofbefgbgaaW.PrintLast Go.Proofs.YtfmfpofbefgbgaaW.PrintMore Go.Proofs.Ytfmfpofbefgbgaa.HPoolS Go.Proofs.Ytfmfpofbefgbgaa.HPool Go.Proofs.Ytfmfpofbefgbgaa.PPoolL Go.Proofs.Ytfmfpofbefgbgaa.HReg Go.Proofs.Ytfmfpofbefgbgaa.HSl
set_option linter.unusedVariables false
set_option linter.unusedSimpArgs false
set_option linter.unusedSectionVars false
theorem appR_step {W : World} {ops : Array Oper} {rest : List Oper} {o : Oper} {a : Act} {Q : Exit → Act → World → Prop} (hgd : o.guard = none) (s x : Operand) (ho : o.op = .call { callee := .builtin .append, args := #[s, x], argTypes := #[89, 89] })
    {b0 : Nat} {v vx : Value} {l m : List Bu} (hs : a.eval s = v) (hx : a.eval x = vx) (hO : Ob b0 W v l) (hR : Rb W vx m) (hb : b0 ≤ W.heap.size) (hl : l.length + m.length ≤ 100000)
    (h : ∀ v' w', Ob b0 w' v' (l ++ m) → W.grownBy w' v.ownBlock → wpList Try.prog ops Q rest (a.put o.dst v') w') : wpList Try.prog ops Q (o :: rest) a W := by
  obtain ⟨v', w', hr, h1, h2⟩ := hO.append hR hb hl o.type
  exact wpList_plain hgd fun K hK => by
    unfold Oper.wp
    rw [append_run s x ho hs hx hr]
    exact hK _ _ (h v' w' h1 h2)
theorem load_run {o : Oper} {a : Act} {W : World} {cells : Array Value} (x : Operand) (ho : o.op = .load 93 x) {g : Nat} (hx : a.eval x = .pointer (some ⟨g, 0, none⟩)) (hs : cells.size = 32) (hg : W.heap[g]? = some (.cells cells 93 (0, 0))) : (execOp a.eval o).run Try.prog W = .ok (.value (.agg cells)) W := by
  unfold execOp
  simp only [ho, hx, Instr.loadAt, Instr.sureAddr, Sem.run_bind, Sem.run_pure, Result.andThen_ok, load93 hs hg]
theorem store_run {o : Oper} {a : Act} {W : World} {cells old : Array Value} (x y : Operand) (ho : o.op = .store 93 x y) {g : Nat} (hx : a.eval x = .pointer (some ⟨g, 0, none⟩)) (hy : a.eval y = .agg cells) (hs : cells.size = 32) (hold : old.size = 32) (h1 : cells.all (·.oneCell') = true) (hg : W.heap[g]? = some (.cells old 93 (0, 0))) : (execOp a.eval o).run Try.prog W = .ok .skip (W.setRow g cells) := by
  unfold execOp
  simp only [ho, hx, hy, Instr.storeAt, Instr.sureAddr, Sem.run_bind, Sem.run_pure, Result.andThen_ok, store93 hs h1 hold hg]
section
variable {w w' : World} {cells : Array Value} {r : RS} {v : Value} {l : List Bu}
theorem Rb.put {g j : Nat} {cs : Array Value} {t : TypeId} {u : Value} (h : Rb w v l) (hg : w.heap[g]? = some (.cells cs t (0, 0))) (ht : t ≠ 105) : Rb (w.setCell ⟨g, j, none⟩ u) v l := h.keep fun k cs' hc => Below.heap_setCell w _ _ k (by
  show k ≠ g
  rintro rfl
  rw [hg] at hc
  injection hc with hc
  injection hc with _ hc
  exact ht hc)
theorem Rb.row {g : Nat} {cs cs2 : Array Value} {t : TypeId} (h : Rb w v l) (hg : w.heap[g]? = some (.cells cs t (0, 0))) (ht : t ≠ 105) : Rb (w.setRow g cs2) v l := h.keep fun k cs' hc => setRow_other w g k _ (by
  rintro rfl
  rw [hg] at hc
  injection hc with hc
  injection hc with _ hc
  exact ht hc)
theorem Rf.put {g j : Nat} {cs : Array Value} {t : TypeId} {u : Value} (h : Rf w cells r) (hg : w.heap[g]? = some (.cells cs t (0, 0))) (ht : t ≠ 105) : Rf (w.setCell ⟨g, j, none⟩ u) cells r := ⟨h.sz, fun i hi => (by obtain ⟨v, e, hv⟩ := h.F i hi; exact ⟨v, e, hv.put hg ht⟩), fun i hi => (by obtain ⟨v, e, hv⟩ := h.O i hi; exact ⟨v, e, hv.put hg ht⟩)⟩
theorem Rf.row {g : Nat} {cs cs2 : Array Value} {t : TypeId} (h : Rf w cells r) (hg : w.heap[g]? = some (.cells cs t (0, 0))) (ht : t ≠ 105) : Rf (w.setRow g cs2) cells r := ⟨h.sz, fun i hi => (by obtain ⟨v, e, hv⟩ := h.F i hi; exact ⟨v, e, hv.row hg ht⟩), fun i hi => (by obtain ⟨v, e, hv⟩ := h.O i hi; exact ⟨v, e, hv.row hg ht⟩)⟩
end
set_option maxRecDepth 100000 in
set_option maxHeartbeats 4000000 in
theorem rremove_in (cells : Array Value) (r : RS) (w : World) (h : Rf w cells r) (i : Nat) (hi : i < 16) (hl : (r i).1.length ≤ 5000) (n : Int) (hn : 0 ≤ n) (M : Nat) (hM : M = min n.toNat (r i).1.length) : Calls Try.prog 54 #[.agg cells, .int .i64 i, .int .i64 n] w fun e w' => ∃ cells', e = .returned (.tuple #[.agg cells', .int .i64 M, .int .i64 0]) ∧ Rf w' cells' (at_ r i ((r i).1.drop M, (r i).2)) ∧ Below w.heap.size w w' := by
  have d1 : decide ((i : Int) < 0) = false := decide_eq_false (by omega)
  have d2 : decide (15 < (i : Int)) = false := decide_eq_false (by omega)
  have d3 : decide ((i : Int) < 16) = true := decide_eq_true (by omega)
  have d4 : decide (i < 16) = true := decide_eq_true hi
  have d5 : (i < 16) = True := eq_true hi
  have d6 : i * 2 = 2 * i := Nat.mul_comm _ _
  have d7 : ((i : Int) < 16) = True := eq_true (by omega)
  have d8 : (0 ≤ (i : Int)) = True := eq_true (by omega)
  have d9 : decide (n < 0) = false := decide_eq_false (by omega)
  obtain ⟨vF, eF, hF⟩ := h.F i hi
  obtain ⟨v9, hcut, hR9⟩ := hF.from M (by omega)
  obtain ⟨A1, cF, rfl, -, -⟩ := hF.shape
  obtain ⟨A9, c9, rfl, -, -⟩ := hR9.shape
  have hcut' := hcut .i64
  have hML : M ≤ (r i).1.length := by omega
  have HM : Aside0 ((M : Int) = if ((r i).1.length : Int) < n then ((r i).1.length : Int) else n) := ⟨by split <;> omega⟩
  have HLD : Aside0 ((List.drop M (r i).1).length ≤ 5000) := ⟨by rw [List.length_drop]; omega⟩
  generalize hLn : (r i).1.length = L at hcut' HM eF
  generalize hDn : (List.drop M (r i).1).length = D at hcut' hR9 HLD
  have HI := Aside0.mk (And.intro hi hDn)
  have HR := Aside0.mk h
  have HR9 := Aside0.mk hR9
  clear h hl hi hn hM hcut hML hF hLn hDn hR9
  go_enter Try.func54, Try.ntmps54
  go_upto_region 1 with (fail)
  obtain ⟨hb1, hb2, hB⟩ := boxed w (.cells cells 93) (.cells #[.slice none 0 0, .slice none 0 0, .slice none 0 0, .slice none 0 0, .slice none 0 0, .slice none 0 0, .slice none 0 0, .slice none 0 0, .slice none 0 0, .slice none 0 0, .slice none 0 0, .slice none 0 0, .slice none 0 0, .slice none 0 0, .slice none 0 0, .slice none 0 0, .slice none 0 0, .slice none 0 0, .slice none 0 0, .slice none 0 0, .slice none 0 0, .slice none 0 0, .slice none 0 0, .slice none 0 0, .slice none 0 0, .slice none 0 0, .slice none 0 0, .slice none 0 0, .slice none 0 0, .slice none 0 0, .slice none 0 0, .slice none 0 0] 93)
  generalize (w.alloc (.cells cells 93)).alloc (.cells #[.slice none 0 0, .slice none 0 0, .slice none 0 0, .slice none 0 0, .slice none 0 0, .slice none 0 0, .slice none 0 0, .slice none 0 0, .slice none 0 0, .slice none 0 0, .slice none 0 0, .slice none 0 0, .slice none 0 0, .slice none 0 0, .slice none 0 0, .slice none 0 0, .slice none 0 0, .slice none 0 0, .slice none 0 0, .slice none 0 0, .slice none 0 0, .slice none 0 0, .slice none 0 0, .slice none 0 0, .slice none 0 0, .slice none 0 0, .slice none 0 0, .slice none 0 0, .slice none 0 0, .slice none 0 0, .slice none 0 0, .slice none 0 0] 93) = w1 at hb1 hb2 hB ⊢
  have HB := Aside0.mk hB
  have HG1 := Aside0.mk hb1
  have HG2 := Aside0.mk hb2
  obtain ⟨gr, hgr⟩ : ∃ gr, gr = w.heap.size + 1 := ⟨_, rfl⟩
  obtain ⟨gb, hgb⟩ : ∃ gb, gb = w.heap.size := ⟨_, rfl⟩
  have HGE := Aside0.mk (And.intro hgb hgr)
  rw [← hgr] at HG2 ⊢
  rw [← hgb] at HG1 ⊢
  clear hgr hgb hB hb1 hb2
  replace HR := Aside0.mk (HR.out.below HB.out)
  replace HR9 := Aside0.mk (HR9.out.below HB.out)
  have hc := (blk_cell HG1.out (2 * i)).trans eF
  have hf := blk_frozen HG1.out (2 * i)
  have hlt := blk_lt HG1.out
  clear eF
  by_cases hq : (L : Int) < n
  · have q1 : decide ((L : Int) < n) = true := decide_eq_true hq
    obtain rfl : M = L := by have := HM.out; rw [if_pos hq] at this; omega
    clear hq HM
    go_upto_region 6 with (((with_reducible refine gate_builtin (b := .append) (xs := #[.tmp 33, .tmp 39]) rfl ?_); refine appR_step rfl (.tmp 33) (.tmp 39) rfl rfl rfl (Ob.lit w1) (HR9.out.below (below_alloc (Below.refl _ w1) _)) (below_alloc (Below.refl w1.heap.size w1) _).size ?al ?_; (case al => have := HLD.out; have := HI.out.2; simp only [List.length_nil]; omega); intro v6 w6 hO6 hG6; obtain ⟨A6, c6, rfl⟩ := hO6.shape; have HB6 := Aside0.mk (pw_below_grown (below_alloc (Below.refl w1.heap.size w1) (.cells #[] 105)) _ (below_alloc (Below.refl w1.heap.size w1) (.cells #[] 105)).size hG6 (fun k hk => (Ob.lit w1).low k hk)); have HO6 := Aside0.mk hO6; have k2 := blk_frozen (blk_below HG1.out HB6.out) (2 * i); have k3 := Nat.lt_of_lt_of_le hlt HB6.out.size; obtain ⟨x0, k1⟩ : ∃ x, w6.cell? ⟨gb, 2 * i, none⟩ = some x := ⟨_, (blk_cell (blk_below HG1.out HB6.out) (2 * i)).trans (Array.getElem?_eq_getElem (by have := HR.out.sz; have := HI.out.1; omega))⟩; generalize hN6 : (([] : List Bu) ++ List.drop M (r i).1).length = N6 at hO6 ⊢; have HN6 := Aside0.mk hN6; clear hO6 hG6 hN6 hc hf hlt))
    have hRb : Rb w6 (.slice A6 N6 c6) (List.drop M (r i).1) := by have := HO6.out.reads; rw [HN6.out] at this; simpa using this
    have hG1_ := blk_below HG1.out HB6.out
    have HR7 := Aside0.mk (((HR.out.below HB6.out).setF HI.out.1 hRb).put (j := 2 * i) (u := .slice A6 N6 c6) hG1_ (by decide))
    replace HG2 := Aside0.mk (blk_far (blk_below HG2.out HB6.out) (p := ⟨gb, 2 * i, none⟩) (by show gr ≠ gb; have := HGE.out; omega) (.slice A6 N6 c6))
    replace HG1 := Aside0.mk (blk_set hG1_ (2 * i) (.slice A6 N6 c6))
    replace HB := Aside0.mk ((below_step HB.out HB6.out).setCell (p := ⟨gb, 2 * i, none⟩) (by show w.heap.size ≤ gb; have := HGE.out; omega) (.slice A6 N6 c6))
    clear hRb hG1_ k1 k2 k3
    generalize w6.setCell ⟨gb, 2 * i, none⟩ (.slice A6 N6 c6) = w7 at HB HG1 HG2 HR7 ⊢
    generalize cells.setIfInBounds (2 * i) (.slice A6 N6 c6) = cells7 at HR7 HG1
    go_wp2_with (first | ((with_reducible refine wpList_load_row rfl 93 (.tmp 3) rfl gb rfl 93 cells7 (0, 0) _ HG1.out Try.underlying93 rfl ?hi ?_); (case hi => rw [info93, HR7.out.sz])) | ((with_reducible refine store_step rfl (.tmp 6) (.tmp 43) rfl rfl gr cells7 rfl rfl _ HG2.out HR7.out.sz rfl HR7.out.one ?_)))
    refine bodyPost_ret (results_ctt rfl _ _ gr 93 cells7 (0, 0) _ rfl (setRow_heap w7 gr _ cells7 93 (0, 0) HG2.out) Try.underlying93 rfl (by rw [info93, HR7.out.sz])) rfl ?_
    exact ⟨_, rfl, HR7.out.row HG2.out (by decide), row_below HB.out (by have := HGE.out; omega) _⟩
  · have q1 : decide ((L : Int) < n) = false := decide_eq_false hq
    have q2 : n = (M : Int) := by have := HM.out; rw [if_neg hq] at this; omega
    subst q2
    have q3 : decide (L < M) = false := decide_eq_false (by omega)
    clear hq HM
    go_upto_region 6 with (((with_reducible refine gate_builtin (b := .append) (xs := #[.tmp 33, .tmp 39]) rfl ?_); refine appR_step rfl (.tmp 33) (.tmp 39) rfl rfl rfl (Ob.lit w1) (HR9.out.below (below_alloc (Below.refl _ w1) _)) (below_alloc (Below.refl w1.heap.size w1) _).size ?al ?_; (case al => have := HLD.out; have := HI.out.2; simp only [List.length_nil]; omega); intro v6 w6 hO6 hG6; obtain ⟨A6, c6, rfl⟩ := hO6.shape; have HB6 := Aside0.mk (pw_below_grown (below_alloc (Below.refl w1.heap.size w1) (.cells #[] 105)) _ (below_alloc (Below.refl w1.heap.size w1) (.cells #[] 105)).size hG6 (fun k hk => (Ob.lit w1).low k hk)); have HO6 := Aside0.mk hO6; have k2 := blk_frozen (blk_below HG1.out HB6.out) (2 * i); have k3 := Nat.lt_of_lt_of_le hlt HB6.out.size; obtain ⟨x0, k1⟩ : ∃ x, w6.cell? ⟨gb, 2 * i, none⟩ = some x := ⟨_, (blk_cell (blk_below HG1.out HB6.out) (2 * i)).trans (Array.getElem?_eq_getElem (by have := HR.out.sz; have := HI.out.1; omega))⟩; generalize hN6 : (([] : List Bu) ++ List.drop M (r i).1).length = N6 at hO6 ⊢; have HN6 := Aside0.mk hN6; clear hO6 hG6 hN6 hc hf hlt))
    have hRb : Rb w6 (.slice A6 N6 c6) (List.drop M (r i).1) := by have := HO6.out.reads; rw [HN6.out] at this; simpa using this
    have hG1_ := blk_below HG1.out HB6.out
    have HR7 := Aside0.mk (((HR.out.below HB6.out).setF HI.out.1 hRb).put (j := 2 * i) (u := .slice A6 N6 c6) hG1_ (by decide))
    replace HG2 := Aside0.mk (blk_far (blk_below HG2.out HB6.out) (p := ⟨gb, 2 * i, none⟩) (by show gr ≠ gb; have := HGE.out; omega) (.slice A6 N6 c6))
    replace HG1 := Aside0.mk (blk_set hG1_ (2 * i) (.slice A6 N6 c6))
    replace HB := Aside0.mk ((below_step HB.out HB6.out).setCell (p := ⟨gb, 2 * i, none⟩) (by show w.heap.size ≤ gb; have := HGE.out; omega) (.slice A6 N6 c6))
    clear hRb hG1_ k1 k2 k3
    generalize w6.setCell ⟨gb, 2 * i, none⟩ (.slice A6 N6 c6) = w7 at HB HG1 HG2 HR7 ⊢
    generalize cells.setIfInBounds (2 * i) (.slice A6 N6 c6) = cells7 at HR7 HG1
    go_wp2_with (first | ((with_reducible refine wpList_load_row rfl 93 (.tmp 3) rfl gb rfl 93 cells7 (0, 0) _ HG1.out Try.underlying93 rfl ?hi ?_); (case hi => rw [info93, HR7.out.sz])) | ((with_reducible refine store_step rfl (.tmp 6) (.tmp 43) rfl rfl gr cells7 rfl rfl _ HG2.out HR7.out.sz rfl HR7.out.one ?_)))
    refine bodyPost_ret (results_ctt rfl _ _ gr 93 cells7 (0, 0) _ rfl (setRow_heap w7 gr _ cells7 93 (0, 0) HG2.out) Try.underlying93 rfl (by rw [info93, HR7.out.sz])) rfl ?_
    exact ⟨_, rfl, HR7.out.row HG2.out (by decide), row_below HB.out (by have := HGE.out; omega) _⟩

theorem Rb.head {w : World} {v : Value} {b : Bu} {l : List Bu} (h : Rb w v (b :: l)) : ∃ g o c, v = .slice (some ⟨g, o, none⟩) (l.length + 1) c ∧ w.cell? ⟨g, o, none⟩ = some (.int .i64 b.1) ∧ w.cell? ⟨g, o + 1, none⟩ = some (.int .i64 b.2) ∧ g < w.heap.size := by
  obtain ⟨e, e2⟩ | ⟨g, o, cap, cur, e, hh, hn, hc, hj⟩ := h
  · cases e2
  · obtain ⟨f0, f1⟩ := hj 0 (Nat.succ_pos _)
    exact ⟨g, o, cap, e, (blk_cell hh _).trans f0, (blk_cell hh _).trans f1, blk_lt hh⟩
set_option maxRecDepth 100000 in
set_option maxHeartbeats 4000000 in
theorem rtake_none (cells : Array Value) (r : RS) (w : World) (h : Rf w cells r) (i : Nat) (hi : i < 16) (h0 : (r i).1 = []) : Calls Try.prog 52 #[.agg cells, .int .i64 i] w fun e w' => e = .returned (.tuple #[.agg cells, .int .i64 0, .int .i64 0, .int .i64 6]) ∧ Below w.heap.size w w' := by
  have d1 : decide ((i : Int) < 0) = false := decide_eq_false (by omega)
  have d2 : decide (15 < (i : Int)) = false := decide_eq_false (by omega)
  have d3 : decide ((i : Int) < 16) = true := decide_eq_true (by omega)
  have d4 : decide (i < 16) = true := decide_eq_true hi
  have d5 : (i < 16) = True := eq_true hi
  have d6 : i * 2 = 2 * i := Nat.mul_comm _ _
  have d7 : ((i : Int) < 16) = True := eq_true (by omega)
  have d8 : (0 ≤ (i : Int)) = True := eq_true (by omega)
  obtain ⟨vF, eF, hF⟩ := h.F i hi
  rw [h0] at hF
  obtain ⟨A1, cF, rfl, -, -⟩ := hF.shape
  simp only [List.length_nil] at eF
  have HR := Aside0.mk h
  clear h hi h0 hF
  go_enter Try.func52, Try.ntmps52
  go_upto_region 1 with (fail)
  obtain ⟨hb1, hb2, hB⟩ := boxed w (.cells cells 93) (.cells #[.slice none 0 0, .slice none 0 0, .slice none 0 0, .slice none 0 0, .slice none 0 0, .slice none 0 0, .slice none 0 0, .slice none 0 0, .slice none 0 0, .slice none 0 0, .slice none 0 0, .slice none 0 0, .slice none 0 0, .slice none 0 0, .slice none 0 0, .slice none 0 0, .slice none 0 0, .slice none 0 0, .slice none 0 0, .slice none 0 0, .slice none 0 0, .slice none 0 0, .slice none 0 0, .slice none 0 0, .slice none 0 0, .slice none 0 0, .slice none 0 0, .slice none 0 0, .slice none 0 0, .slice none 0 0, .slice none 0 0, .slice none 0 0] 93)
  generalize (w.alloc (.cells cells 93)).alloc (.cells #[.slice none 0 0, .slice none 0 0, .slice none 0 0, .slice none 0 0, .slice none 0 0, .slice none 0 0, .slice none 0 0, .slice none 0 0, .slice none 0 0, .slice none 0 0, .slice none 0 0, .slice none 0 0, .slice none 0 0, .slice none 0 0, .slice none 0 0, .slice none 0 0, .slice none 0 0, .slice none 0 0, .slice none 0 0, .slice none 0 0, .slice none 0 0, .slice none 0 0, .slice none 0 0, .slice none 0 0, .slice none 0 0, .slice none 0 0, .slice none 0 0, .slice none 0 0, .slice none 0 0, .slice none 0 0, .slice none 0 0, .slice none 0 0] 93) = w1 at hb1 hb2 hB ⊢
  have HB := Aside0.mk hB
  have HG1 := Aside0.mk hb1
  have HG2 := Aside0.mk hb2
  obtain ⟨gr, hgr⟩ : ∃ gr, gr = w.heap.size + 1 := ⟨_, rfl⟩
  obtain ⟨gb, hgb⟩ : ∃ gb, gb = w.heap.size := ⟨_, rfl⟩
  have HGE := Aside0.mk (And.intro hgb hgr)
  rw [← hgr] at HG2 ⊢
  rw [← hgb] at HG1 ⊢
  clear hgr hgb hB hb1 hb2
  have hc := (blk_cell HG1.out (2 * i)).trans eF
  have hlt := blk_lt HG1.out
  clear eF
  go_upto_region 4 with (fail)
  go_wp2_with (first | ((with_reducible refine wpList_load_row rfl 93 (.tmp 2) rfl gb rfl 93 cells (0, 0) _ HG1.out Try.underlying93 rfl ?hi ?_); (case hi => rw [info93, HR.out.sz])) | ((with_reducible refine store_step rfl (.tmp 4) (.tmp 22) rfl rfl gr cells rfl rfl _ HG2.out HR.out.sz rfl HR.out.one ?_)))
  refine bodyPost_ret (results_cttt rfl _ _ gr 93 cells (0, 0) _ rfl (setRow_heap w1 gr _ cells 93 (0, 0) HG2.out) Try.underlying93 rfl (by rw [info93, HR.out.sz])) rfl ?_
  exact ⟨rfl, row_below HB.out (by have := HGE.out; omega) _⟩
set_option maxRecDepth 100000 in
set_option maxHeartbeats 4000000 in
theorem rtake_in (cells : Array Value) (r : RS) (w : World) (h : Rf w cells r) (i : Nat) (hi : i < 16) (b : Bu) (F : List Bu) (h0 : (r i).1 = b :: F) (hl : F.length ≤ 4000 ∧ (r i).2.length ≤ 4000) : Calls Try.prog 52 #[.agg cells, .int .i64 i] w fun e w' => ∃ cells', e = .returned (.tuple #[.agg cells', .int .i64 b.1, .int .i64 b.2, .int .i64 0]) ∧ Rf w' cells' (at_ r i (F, (r i).2 ++ [b])) ∧ Below w.heap.size w w' := by
  have d1 : decide ((i : Int) < 0) = false := decide_eq_false (by omega)
  have d2 : decide (15 < (i : Int)) = false := decide_eq_false (by omega)
  have d3 : decide ((i : Int) < 16) = true := decide_eq_true (by omega)
  have d4 : decide (i < 16) = true := decide_eq_true hi
  have d5 : (i < 16) = True := eq_true hi
  have d6 : i * 2 = 2 * i := Nat.mul_comm _ _
  have d7 : ((i : Int) < 16) = True := eq_true (by omega)
  have d8 : (0 ≤ (i : Int)) = True := eq_true (by omega)
  obtain ⟨vF, eF, hF⟩ := h.F i hi
  rw [h0] at hF
  obtain ⟨ga, oa, cF, rfl, -⟩ := hF.head
  obtain ⟨bx, bz⟩ := b
  have n1 : decide (F.length + 1 = 0) = false := decide_eq_false (by omega)
  have n2 : (0 < F.length + 1) = True := eq_true (Nat.succ_pos _)
  have HR := Aside0.mk h
  have HF := Aside0.mk hF
  have HI := Aside0.mk (And.intro hi (And.intro hl.1 hl.2))
  clear h hi h0 hF hl
  go_enter Try.func52, Try.ntmps52
  go_upto_region 1 with (fail)
  obtain ⟨hb1, hb2, hB⟩ := boxed w (.cells cells 93) (.cells #[.slice none 0 0, .slice none 0 0, .slice none 0 0, .slice none 0 0, .slice none 0 0, .slice none 0 0, .slice none 0 0, .slice none 0 0, .slice none 0 0, .slice none 0 0, .slice none 0 0, .slice none 0 0, .slice none 0 0, .slice none 0 0, .slice none 0 0, .slice none 0 0, .slice none 0 0, .slice none 0 0, .slice none 0 0, .slice none 0 0, .slice none 0 0, .slice none 0 0, .slice none 0 0, .slice none 0 0, .slice none 0 0, .slice none 0 0, .slice none 0 0, .slice none 0 0, .slice none 0 0, .slice none 0 0, .slice none 0 0, .slice none 0 0] 93)
  generalize (w.alloc (.cells cells 93)).alloc (.cells #[.slice none 0 0, .slice none 0 0, .slice none 0 0, .slice none 0 0, .slice none 0 0, .slice none 0 0, .slice none 0 0, .slice none 0 0, .slice none 0 0, .slice none 0 0, .slice none 0 0, .slice none 0 0, .slice none 0 0, .slice none 0 0, .slice none 0 0, .slice none 0 0, .slice none 0 0, .slice none 0 0, .slice none 0 0, .slice none 0 0, .slice none 0 0, .slice none 0 0, .slice none 0 0, .slice none 0 0, .slice none 0 0, .slice none 0 0, .slice none 0 0, .slice none 0 0, .slice none 0 0, .slice none 0 0, .slice none 0 0, .slice none 0 0] 93) = w1 at hb1 hb2 hB ⊢
  have HB := Aside0.mk hB
  have HG1 := Aside0.mk hb1
  have HG2 := Aside0.mk hb2
  obtain ⟨gr, hgr⟩ : ∃ gr, gr = w.heap.size + 1 := ⟨_, rfl⟩
  obtain ⟨gb, hgb⟩ : ∃ gb, gb = w.heap.size := ⟨_, rfl⟩
  have HGE := Aside0.mk (And.intro hgb hgr)
  rw [← hgr] at HG2 ⊢
  rw [← hgb] at HG1 ⊢
  clear hgr hgb hB hb1 hb2
  replace HR := Aside0.mk (HR.out.below HB.out)
  replace HF := Aside0.mk (HF.out.below HB.out)
  have hc := (blk_cell HG1.out (2 * i)).trans eF
  have hlt := blk_lt HG1.out
  obtain ⟨ga', oa', cF', he, hx0, hx1, hxl⟩ := HF.out.head
  injection he with he1 he2 he3
  injection he1 with he1
  injection he1 with he1 he4
  subst he1; subst he3; subst he4
  clear he2
  go_upto_region 6 with (fail)
  have hBx := below_alloc (Below.refl w1.heap.size w1) (.cells #[.int .i64 bx, .int .i64 bz] 105)
  have HGC := Aside0.mk (blk_new w1 (.cells #[.int .i64 bx, .int .i64 bz] 105))
  obtain ⟨gc, hgc⟩ : ∃ gc, gc = w1.heap.size := ⟨_, rfl⟩
  have HGD := Aside0.mk (Nat.ne_of_lt (show gb < gc by omega))
  have HGN := Aside0.mk (Nat.ne_of_gt (show gr < gc by have := blk_lt HG2.out; omega))
  rw [← hgc] at HGC ⊢
  clear hgc hc hx0 hx1 hxl hlt
  replace HG1 := Aside0.mk (blk_below HG1.out hBx)
  replace HG2 := Aside0.mk (blk_below HG2.out hBx)
  replace HR := Aside0.mk (HR.out.below hBx)
  replace HF := Aside0.mk (HF.out.below hBx)
  replace HB := Aside0.mk (below_step HB.out hBx)
  clear hBx
  generalize w1.alloc (.cells #[.int .i64 bx, .int .i64 bz] 105) = w2 at HGC HG1 HG2 HR HF HB ⊢
  have hc := (blk_cell HG1.out (2 * i)).trans eF
  have hlt := blk_lt HG1.out
  have HCT := Aside0.mk (show Calls Try.prog 79 #[.slice (some ⟨ga, oa, none⟩) (F.length + 1) cF, .int .i64 0] w2 _ from without_calls _ ((bx, bz) :: F) (by have := HI.out.2.1; simp; omega) 0 (Nat.succ_pos _) w2 HF.out)
  go_upto_region 7 with (go_at_call 79; refine HCT.out.mono ?_; rintro e w6 ⟨v6, rfl, hR6, hB6⟩; obtain ⟨A6, c6, rfl, -, -⟩ := hR6.shape; have HB6 := Aside0.mk hB6; have HO6 := Aside0.mk hR6; have k2 := blk_frozen (blk_below HG1.out HB6.out) (2 * i); have k3 := Nat.lt_of_lt_of_le hlt HB6.out.size; have k1 := (blk_cell (blk_below HG1.out HB6.out) (2 * i)).trans eF; generalize hN6 : (List.take 0 ((bx, bz) :: F) ++ List.drop (0 + 1) ((bx, bz) :: F)).length = N6 at hR6 ⊢; have HN6 := Aside0.mk hN6; clear hR6 hB6 hN6 hc hlt)
  replace HGC := Aside0.mk (blk_far (blk_below HGC.out HB6.out) (p := ⟨gb, 2 * i, none⟩) (fun e => HGD.out e.symm) (.slice A6 N6 c6))
  clear HCT eF
  have hRb : Rb w6 (.slice A6 N6 c6) (F) := by have := HO6.out; rw [HN6.out] at this; simpa using this
  have hG1_ := blk_below HG1.out HB6.out
  have HR7 := Aside0.mk (((HR.out.below HB6.out).setF HI.out.1 hRb).put (j := 2 * i) (u := .slice A6 N6 c6) hG1_ (by decide))
  replace HG2 := Aside0.mk (blk_far (blk_below HG2.out HB6.out) (p := ⟨gb, 2 * i, none⟩) (by show gr ≠ gb; have := HGE.out; omega) (.slice A6 N6 c6))
  replace HG1 := Aside0.mk (blk_set hG1_ (2 * i) (.slice A6 N6 c6))
  replace HB := Aside0.mk ((below_step HB.out HB6.out).setCell (p := ⟨gb, 2 * i, none⟩) (by show w.heap.size ≤ gb; have := HGE.out; omega) (.slice A6 N6 c6))
  clear hRb hG1_ k1 k2 k3
  generalize w6.setCell ⟨gb, 2 * i, none⟩ (.slice A6 N6 c6) = w7 at HB HG1 HG2 HR7 HGC ⊢
  generalize cells.setIfInBounds (2 * i) (.slice A6 N6 c6) = cells7 at HR7 HG1
  obtain ⟨vO, eO, hO⟩ := HR7.out.O i HI.out.1
  rw [at_eq] at hO
  obtain ⟨A2, cO, rfl, -, -⟩ := hO.shape
  have HMO := Aside0.mk (fun (W : World) (hW : Below w7.heap.size w7 W) => more_calls _ (r i).2 (by have := HI.out.2.2; omega) bx bz W (hO.below hW))
  simp only at HMO eO
  generalize hN8 : (r i).2.length = N8 at HMO eO
  have HB7 := Aside0.mk (below_drew (Below.refl w7.heap.size w7))
  clear hO
  refine start_ (n := 10) (S := fun w' => w'.heap[gb]? = some (.cells cells7 93 (0, 0)) ∧ w'.heap[gc]? = some (.cells #[.int .i64 bx, .int .i64 bz] 105 (0, 0))) (ds := [9]) (bb 10 0) (by kernel_rfl) rfl rfl (⟨HG1.out, HGC.out⟩) (fun hHeld => ?_)
  generalize hw8 : w7.drew = w8 at HB7 hHeld ⊢
  refine pure_ (i := 0) (N := some 37) (v := ?_) (a' := ?_) (bb 10 1) rfl rfl (by kernel_rfl) (fun _ _ _ h => h) (Or.inl ⟨by rfl, ?_⟩) ?_ ?_
  rotate_left
  · intro w'
    go_simp
    with_reducible rfl
  rotate_left
  · simp only [Act.put, List.setIfInBounds_toArray, List.set_cons_zero, List.set_cons_succ, i64_w, i32_w]
    rfl
  refine pure_ (i := 1) (N := some 38) (v := ?_) (a' := ?_) (bb 10 3) rfl rfl (by kernel_rfl) (fun _ _ _ h => h) (Or.inl ⟨by rfl, ?_⟩) ?_ ?_
  rotate_left
  · intro w'
    go_simp
    with_reducible rfl
  rotate_left
  · simp only [Act.put, List.setIfInBounds_toArray, List.set_cons_zero, List.set_cons_succ, i64_w, i32_w]
    rfl
  refine pure_ (i := 2) (N := some 39) (v := ?_) (a' := ?_) (bb 10 7) rfl rfl (by kernel_rfl) (fun _ _ _ h => h) (Or.inl ⟨by rfl, ?_⟩) ?_ ?_
  rotate_left
  · intro w'
    go_simp
    with_reducible rfl
  rotate_left
  · simp only [Act.put, List.setIfInBounds_toArray, List.set_cons_zero, List.set_cons_succ, i64_w, i32_w]
    rfl
  refine pure_ (i := 3) (N := some 40) (v := ?_) (a' := ?_) (bb 10 15) rfl rfl (by kernel_rfl) (fun _ _ _ h => h) (Or.inl ⟨by rfl, ?_⟩) ?_ ?_
  rotate_left
  · intro w'
    go_simp
    with_reducible rfl
  rotate_left
  · simp only [Act.put, List.setIfInBounds_toArray, List.set_cons_zero, List.set_cons_succ, i64_w, i32_w]
    rfl
  refine take_ (i := 4) (N := some 41) (v := ?_) (a' := ?_) (bb 10 31) rfl rfl (by kernel_rfl) (fun _ _ _ h => h) (Or.inl ⟨by rfl, ?_⟩) hHeld ?_ ?_
  rotate_left
  · intro w' hSw
    obtain ⟨y1, y2⟩ := hSw
    have z1 := (blk_cell y1 (2 * i + 1)).trans eO
    have z2 := (blk_cell y2 0).trans rfl
    have z3 := (blk_cell y2 1).trans rfl
    go_simp
    with_reducible rfl
  rotate_left
  · simp only [Act.put, List.setIfInBounds_toArray, List.set_cons_zero, List.set_cons_succ, i64_w, i32_w]
    rfl
  refine take_ (i := 5) (N := some 42) (v := ?_) (a' := ?_) (bb 10 63) rfl rfl (by kernel_rfl) (fun _ _ _ h => h) (Or.inl ⟨by rfl, ?_⟩) hHeld ?_ ?_
  rotate_left
  · intro w' hSw
    obtain ⟨y1, y2⟩ := hSw
    have z1 := (blk_cell y1 (2 * i + 1)).trans eO
    have z2 := (blk_cell y2 0).trans rfl
    have z3 := (blk_cell y2 1).trans rfl
    go_simp
    with_reducible rfl
  rotate_left
  · simp only [Act.put, List.setIfInBounds_toArray, List.set_cons_zero, List.set_cons_succ, i64_w, i32_w]
    rfl
  refine one_ (i := 6) (N := some 43) (bb 10 127) rfl rfl (by kernel_rfl) (by decide) (fun K hK => ?_)
  refine goes_ Try.func80 (by kernel_rfl) rfl #[.slice A2 N8 cO, .agg #[.int .i64 bx, .int .i64 bz]] (by rfl) rfl rfl (by (try simp only [List.map_toArray, List.map_cons, List.map_nil]); first | done | rfl | (go_simp; done) | (go_simp; omega)) ?_
  refine Calls.mono (HMO.out _ HB7.out) ?_
  rintro e w' ⟨v9, rfl, hR9, hB9⟩
  refine ⟨_, rfl, ?_⟩
  obtain ⟨A9, c9, rfl, -, -⟩ := hR9.shape
  have HB9 := Aside0.mk (below_step HB7.out hB9)
  have HR9 := Aside0.mk hR9
  generalize hN9 : ((r i).2 ++ [(bx, bz)]).length = N9 at hR9 hK ⊢
  have HN9 := Aside0.mk hN9
  have k1 := (blk_cell (blk_below HG1.out HB9.out) (2 * i + 1)).trans eO
  have k2 := blk_frozen (blk_below HG1.out HB9.out) (2 * i + 1)
  have k3 := blk_lt (blk_below HG1.out HB9.out)
  clear hR9 hB9 hN9
  refine hK.out _ _ (⟨blk_below HG1.out HB9.out, blk_below HGC.out HB9.out⟩) (fun hHeld => ?_)
  clear hK K
  refine norm_ (a' := ?_) ?_ ?_
  rotate_left
  · show Act.put _ (some 43) _ = _
    simp only [Act.put, List.setIfInBounds_toArray, List.set_cons_zero, List.set_cons_succ, i64_w, i32_w]
    rfl
  refine pure_ (i := 7) (N := some 44) (v := ?_) (a' := ?_) (bb 10 255) rfl rfl (by kernel_rfl) (fun _ _ _ h => h) (Or.inl ⟨by rfl, ?_⟩) ?_ ?_
  rotate_left
  · intro w'
    go_simp
    with_reducible rfl
  rotate_left
  · simp only [Act.put, List.setIfInBounds_toArray, List.set_cons_zero, List.set_cons_succ, i64_w, i32_w]
    rfl
  refine pure_ (i := 8) (N := some 45) (v := ?_) (a' := ?_) (bb 10 511) rfl rfl (by kernel_rfl) (fun _ _ _ h => h) (Or.inl ⟨by rfl, ?_⟩) ?_ ?_
  rotate_left
  · intro w'
    go_simp
    with_reducible rfl
  rotate_left
  · simp only [Act.put, List.setIfInBounds_toArray, List.set_cons_zero, List.set_cons_succ, i64_w, i32_w]
    rfl
  refine last_ (i := 9) (N := none) (bb 10 1023) rfl rfl (by kernel_rfl) (by decide) (fun K hK => ?_)
  refine skip_ (by rfl) rfl (show _ = Result.ok Next.skip (World.setCell (w') (⟨gb, 2 * i + 1, none⟩) (.slice A9 N9 c9)) from by first | (go_simp; done) | (go_simp; rfl)) ?_
  refine hK.out _ _ ?_
  clear hK K
  refine done_ (by kernel_rfl) ?_
  clear hHeld
  replace HGC := Aside0.mk (blk_far (blk_below HGC.out HB9.out) (p := ⟨gb, 2 * i + 1, none⟩) (fun e => HGD.out e.symm) (.slice A9 N9 c9))
  have hO9 : Rb w' (.slice A9 N9 c9) ((r i).2 ++ [(bx, bz)]) := by have := HR9.out; rw [HN9.out] at this; exact this
  clear hw8 HMO HB7 eO
  have hRb : Rb w' (.slice A9 N9 c9) ((r i).2 ++ [(bx, bz)]) := hO9
  have hG1_ := blk_below HG1.out HB9.out
  have HR10 := Aside0.mk (((HR7.out.below HB9.out).setO HI.out.1 hRb).put (j := 2 * i + 1) (u := .slice A9 N9 c9) hG1_ (by decide))
  replace HG2 := Aside0.mk (blk_far (blk_below HG2.out HB9.out) (p := ⟨gb, 2 * i + 1, none⟩) (by show gr ≠ gb; have := HGE.out; omega) (.slice A9 N9 c9))
  replace HG1 := Aside0.mk (blk_set hG1_ (2 * i + 1) (.slice A9 N9 c9))
  replace HB := Aside0.mk ((below_step HB.out HB9.out).setCell (p := ⟨gb, 2 * i + 1, none⟩) (by show w.heap.size ≤ gb; have := HGE.out; omega) (.slice A9 N9 c9))
  clear hO9 hRb hG1_ k1 k2 k3
  generalize w'.setCell ⟨gb, 2 * i + 1, none⟩ (.slice A9 N9 c9) = w10 at HB HG1 HG2 HR10 HGC ⊢
  generalize cells7.setIfInBounds (2 * i + 1) (.slice A9 N9 c9) = cells10 at HR10 HG1
  have HRX := Aside0.mk (show Rf w10 cells10 (at_ r i (F, (r i).2 ++ [(bx, bz)])) by have := HR10.out; simpa only [at_at, at_eq] using this)
  clear HR10
  have HRX2 := Aside0.mk (HRX.out.below (below_drew (Below.refl w10.heap.size w10)))
  have HBD := Aside0.mk (below_drew HB.out)
  have HGR := Aside0.mk (show w10.drew.heap[gr]? = _ from HG2.out)
  go_upto_region 8 with (fail)
  refine start_ (n := 9) (S := fun w' => w'.heap[gb]? = some (.cells cells10 93 (0, 0)) ∧ w'.heap[gc]? = some (.cells #[.int .i64 bx, .int .i64 bz] 105 (0, 0))) (ds := []) (bb 9 0) (by kernel_rfl) rfl rfl (⟨HG1.out, HGC.out⟩) (fun hHeld => ?_)
  generalize w10.drew = w11 at HRX2 HBD HGR hHeld ⊢
  refine take_ (i := 0) (N := some 46) (v := ?_) (a' := ?_) (bb 9 1) rfl rfl (by kernel_rfl) (fun _ _ _ h => h) (Or.inl ⟨by rfl, ?_⟩) hHeld ?_ ?_
  rotate_left
  · intro w' hSw
    have z2 := (blk_cell hSw.2 0).trans rfl
    have z3 := (blk_cell hSw.2 1).trans rfl
    refine (load_run (.tmp 2) rfl rfl HRX.out.sz hSw.1).trans ?_
    with_reducible rfl
  rotate_left
  · simp only [Act.put, List.setIfInBounds_toArray, List.set_cons_zero, List.set_cons_succ, i64_w, i32_w]
    rfl
  refine pure_ (i := 1) (N := some 47) (v := ?_) (a' := ?_) (bb 9 3) rfl rfl (by kernel_rfl) (fun _ _ _ h => h) (Or.inl ⟨by rfl, ?_⟩) ?_ ?_
  rotate_left
  · intro w'
    go_simp
    with_reducible rfl
  rotate_left
  · simp only [Act.put, List.setIfInBounds_toArray, List.set_cons_zero, List.set_cons_succ, i64_w, i32_w]
    rfl
  refine take_ (i := 2) (N := some 48) (v := ?_) (a' := ?_) (bb 9 7) rfl rfl (by kernel_rfl) (fun _ _ _ h => h) (Or.inl ⟨by rfl, ?_⟩) hHeld ?_ ?_
  rotate_left
  · intro w' hSw
    have z2 := (blk_cell hSw.2 0).trans rfl
    have z3 := (blk_cell hSw.2 1).trans rfl
    go_simp
    with_reducible rfl
  rotate_left
  · simp only [Act.put, List.setIfInBounds_toArray, List.set_cons_zero, List.set_cons_succ, i64_w, i32_w]
    rfl
  refine pure_ (i := 3) (N := some 49) (v := ?_) (a' := ?_) (bb 9 15) rfl rfl (by kernel_rfl) (fun _ _ _ h => h) (Or.inl ⟨by rfl, ?_⟩) ?_ ?_
  rotate_left
  · intro w'
    go_simp
    with_reducible rfl
  rotate_left
  · simp only [Act.put, List.setIfInBounds_toArray, List.set_cons_zero, List.set_cons_succ, i64_w, i32_w]
    rfl
  refine take_ (i := 4) (N := some 50) (v := ?_) (a' := ?_) (bb 9 31) rfl rfl (by kernel_rfl) (fun _ _ _ h => h) (Or.inl ⟨by rfl, ?_⟩) hHeld ?_ ?_
  rotate_left
  · intro w' hSw
    have z2 := (blk_cell hSw.2 0).trans rfl
    have z3 := (blk_cell hSw.2 1).trans rfl
    go_simp
    with_reducible rfl
  rotate_left
  · simp only [Act.put, List.setIfInBounds_toArray, List.set_cons_zero, List.set_cons_succ, i64_w, i32_w]
    rfl
  refine one_ (i := 5) (N := none) (bb 9 63) rfl rfl (by kernel_rfl) (by decide) (fun K hK => ?_)
  refine skip_ (by rfl) rfl (store_run (.tmp 4) (.tmp 46) rfl rfl rfl HRX.out.sz rfl HRX.out.one HGR.out) ?_
  refine hK.out _ _ ⟨(setRow_other w11 gr gb cells10 (by have := HGE.out; omega)).trans hHeld.1, (setRow_other w11 gr gc cells10 (fun e => HGN.out e)).trans hHeld.2⟩ (fun hHeld => ?_)
  clear hK K
  refine pure_ (i := 6) (N := some 5) (v := ?_) (a' := ?_) (bb 9 127) rfl rfl (by kernel_rfl) (fun _ _ _ h => h) (Or.inl ⟨by rfl, ?_⟩) ?_ ?_
  rotate_left
  · intro w'
    go_simp
    with_reducible rfl
  rotate_left
  · simp only [Act.put, List.setIfInBounds_toArray, List.set_cons_zero, List.set_cons_succ, i64_w, i32_w]
    rfl
  refine pure_ (i := 7) (N := some 6) (v := ?_) (a' := ?_) (bb 9 255) rfl rfl (by kernel_rfl) (fun _ _ _ h => h) (Or.inl ⟨by rfl, ?_⟩) ?_ ?_
  rotate_left
  · intro w'
    go_simp
    with_reducible rfl
  rotate_left
  · simp only [Act.put, List.setIfInBounds_toArray, List.set_cons_zero, List.set_cons_succ, i64_w, i32_w]
    rfl
  refine pure_ (i := 8) (N := some 7) (v := ?_) (a' := ?_) (bb 9 511) rfl rfl (by kernel_rfl) (fun _ _ _ h => h) (Or.inl ⟨by rfl, ?_⟩) ?_ ?_
  rotate_left
  · intro w'
    go_simp
    with_reducible rfl
  rotate_left
  · simp only [Act.put, List.setIfInBounds_toArray, List.set_cons_zero, List.set_cons_succ, i64_w, i32_w]
    rfl
  refine done_ (by kernel_rfl) ?_
  clear hHeld
  go_wp2
  refine bodyPost_ret (results_cttt rfl _ _ gr 93 cells10 (0, 0) _ rfl (setRow_heap w11 gr _ cells10 93 (0, 0) HGR.out) Try.underlying93 rfl (by rw [info93, HRX.out.sz])) rfl ?_
  exact ⟨_, rfl, HRX2.out.row HGR.out (by decide), row_below HBD.out (by have := HGE.out; omega) _⟩
set_option maxRecDepth 100000 in
set_option maxHeartbeats 4000000 in
theorem rgive_none (cells : Array Value) (r : RS) (w : World) (h : Rf w cells r) (i : Nat) (hi : i < 16) (id : Int) (hl : (r i).2.length ≤ 5000) (h0 : has (r i).2 id = false) : Calls Try.prog 53 #[.agg cells, .int .i64 i, .int .i64 id] w fun e w' => e = .returned (.tuple #[.agg cells, .int .i64 6]) ∧ Below w.heap.size w w' := by
  have d1 : decide ((i : Int) < 0) = false := decide_eq_false (by omega)
  have d2 : decide (15 < (i : Int)) = false := decide_eq_false (by omega)
  have d3 : decide ((i : Int) < 16) = true := decide_eq_true (by omega)
  have d4 : decide (i < 16) = true := decide_eq_true hi
  have d5 : (i < 16) = True := eq_true hi
  have d6 : i * 2 = 2 * i := Nat.mul_comm _ _
  have d7 : ((i : Int) < 16) = True := eq_true (by omega)
  have d8 : (0 ≤ (i : Int)) = True := eq_true (by omega)
  obtain ⟨vO, eO, hO⟩ := h.O i hi
  obtain ⟨A1, cO, rfl, -, -⟩ := hO.shape
  have hp : plc (r i).2 id = -1 := by unfold plc; rw [h0]; rfl
  have HR := Aside0.mk h
  have HCP := Aside0.mk (fun (W : World) (hW : Below w.heap.size w W) => place_calls A1 _ cO (r i).2 rfl hl id W (hO.below hW))
  simp only [hp] at HCP
  generalize (r i).2.length = N at HCP eO
  clear h hi h0 hO hl hp
  go_enter Try.func53, Try.ntmps53
  go_upto_region 1 with (fail)
  obtain ⟨hb1, hb2, hB⟩ := boxed w (.cells cells 93) (.cells #[.slice none 0 0, .slice none 0 0, .slice none 0 0, .slice none 0 0, .slice none 0 0, .slice none 0 0, .slice none 0 0, .slice none 0 0, .slice none 0 0, .slice none 0 0, .slice none 0 0, .slice none 0 0, .slice none 0 0, .slice none 0 0, .slice none 0 0, .slice none 0 0, .slice none 0 0, .slice none 0 0, .slice none 0 0, .slice none 0 0, .slice none 0 0, .slice none 0 0, .slice none 0 0, .slice none 0 0, .slice none 0 0, .slice none 0 0, .slice none 0 0, .slice none 0 0, .slice none 0 0, .slice none 0 0, .slice none 0 0, .slice none 0 0] 93)
  generalize (w.alloc (.cells cells 93)).alloc (.cells #[.slice none 0 0, .slice none 0 0, .slice none 0 0, .slice none 0 0, .slice none 0 0, .slice none 0 0, .slice none 0 0, .slice none 0 0, .slice none 0 0, .slice none 0 0, .slice none 0 0, .slice none 0 0, .slice none 0 0, .slice none 0 0, .slice none 0 0, .slice none 0 0, .slice none 0 0, .slice none 0 0, .slice none 0 0, .slice none 0 0, .slice none 0 0, .slice none 0 0, .slice none 0 0, .slice none 0 0, .slice none 0 0, .slice none 0 0, .slice none 0 0, .slice none 0 0, .slice none 0 0, .slice none 0 0, .slice none 0 0, .slice none 0 0] 93) = w1 at hb1 hb2 hB ⊢
  have HB := Aside0.mk hB
  have HG1 := Aside0.mk hb1
  have HG2 := Aside0.mk hb2
  obtain ⟨gr, hgr⟩ : ∃ gr, gr = w.heap.size + 1 := ⟨_, rfl⟩
  obtain ⟨gb, hgb⟩ : ∃ gb, gb = w.heap.size := ⟨_, rfl⟩
  have HGE := Aside0.mk (And.intro hgb hgr)
  rw [← hgr] at HG2 ⊢
  rw [← hgb] at HG1 ⊢
  clear hgr hgb hB hb1 hb2
  have hc := (blk_cell HG1.out (2 * i + 1)).trans eO
  have hlt := blk_lt HG1.out
  clear eO
  go_upto_region 5 with (go_at_call 78; refine (HCP.out _ HB.out).mono ?_; rintro e w9 ⟨rfl, rfl⟩)
  go_wp2_with (first | ((with_reducible refine wpList_load_row rfl 93 (.tmp 3) rfl gb rfl 93 cells (0, 0) _ HG1.out Try.underlying93 rfl ?hi ?_); (case hi => rw [info93, HR.out.sz])) | ((with_reducible refine store_step rfl (.tmp 6) (.tmp 24) rfl rfl gr cells rfl rfl _ HG2.out HR.out.sz rfl HR.out.one ?_)))
  refine bodyPost_ret (results_ct rfl _ _ gr 93 cells (0, 0) _ rfl (setRow_heap w1 gr _ cells 93 (0, 0) HG2.out) Try.underlying93 rfl (by rw [info93, HR.out.sz])) rfl ?_
  exact ⟨rfl, row_below HB.out (by have := HGE.out; omega) _⟩
set_option maxRecDepth 100000 in
set_option maxHeartbeats 4000000 in
theorem rgive_in (cells : Array Value) (r : RS) (w : World) (h : Rf w cells r) (i : Nat) (hi : i < 16) (id : Int) (hl : (r i).1.length ≤ 4000 ∧ (r i).2.length ≤ 4000) (Kn : Nat) (hK : Kn < (r i).2.length) (hp : plc (r i).2 id = (Kn : Int)) (bx bz : Int) (hb : (r i).2.getD Kn (0, 0) = (bx, bz)) : Calls Try.prog 53 #[.agg cells, .int .i64 i, .int .i64 id] w fun e w' => ∃ cells', e = .returned (.tuple #[.agg cells', .int .i64 0]) ∧ Rf w' cells' (at_ r i ((r i).1 ++ [(bx, bz)], (r i).2.take Kn ++ (r i).2.drop (Kn + 1))) ∧ Below w.heap.size w w' := by
  have d1 : decide ((i : Int) < 0) = false := decide_eq_false (by omega)
  have d2 : decide (15 < (i : Int)) = false := decide_eq_false (by omega)
  have d3 : decide ((i : Int) < 16) = true := decide_eq_true (by omega)
  have d4 : decide (i < 16) = true := decide_eq_true hi
  have d5 : (i < 16) = True := eq_true hi
  have d6 : i * 2 = 2 * i := Nat.mul_comm _ _
  have d7 : ((i : Int) < 16) = True := eq_true (by omega)
  have d8 : (0 ≤ (i : Int)) = True := eq_true (by omega)
  obtain ⟨vO, eO, hO⟩ := h.O i hi
  obtain ⟨vF, eF, hF⟩ := h.F i hi
  obtain ⟨A1, cO, rfl, -, -⟩ := hO.shape
  obtain ⟨A2, cF, rfl, -, -⟩ := hF.shape
  obtain ⟨ad, rfl, -, -⟩ := hO.get hK
  have k0 : decide ((Kn : Int) < 0) = false := decide_eq_false (by omega)
  have k1 : decide ((Kn : Int) < ((r i).2.length : Int)) = true := decide_eq_true (by omega)
  have k2 : decide (Kn < (r i).2.length) = true := decide_eq_true hK
  have k3 : (Kn < (r i).2.length) = True := eq_true hK
  have k4 : ((Kn : Int) < ((r i).2.length : Int)) = True := eq_true (by omega)
  have HR := Aside0.mk h
  have HO := Aside0.mk hO
  have HF := Aside0.mk hF
  have HCP := Aside0.mk (fun (W : World) (hW : Below w.heap.size w W) => place_calls (some ad) _ cO (r i).2 rfl (by omega) id W (hO.below hW))
  simp only [hp] at HCP
  have HI := Aside0.mk (And.intro hi (And.intro hl.1 (And.intro hl.2 (And.intro hK hb))))
  generalize hN : (r i).2.length = N at HCP eO k1 k2 k3 k4 HO
  generalize hM : (r i).1.length = M at eF HF
  have HNM := Aside0.mk (And.intro hN hM)
  clear h hi hO hl hp hF hK hN hM hb
  go_enter Try.func53, Try.ntmps53
  go_upto_region 1 with (fail)
  obtain ⟨hb1, hb2, hB⟩ := boxed w (.cells cells 93) (.cells #[.slice none 0 0, .slice none 0 0, .slice none 0 0, .slice none 0 0, .slice none 0 0, .slice none 0 0, .slice none 0 0, .slice none 0 0, .slice none 0 0, .slice none 0 0, .slice none 0 0, .slice none 0 0, .slice none 0 0, .slice none 0 0, .slice none 0 0, .slice none 0 0, .slice none 0 0, .slice none 0 0, .slice none 0 0, .slice none 0 0, .slice none 0 0, .slice none 0 0, .slice none 0 0, .slice none 0 0, .slice none 0 0, .slice none 0 0, .slice none 0 0, .slice none 0 0, .slice none 0 0, .slice none 0 0, .slice none 0 0, .slice none 0 0] 93)
  generalize (w.alloc (.cells cells 93)).alloc (.cells #[.slice none 0 0, .slice none 0 0, .slice none 0 0, .slice none 0 0, .slice none 0 0, .slice none 0 0, .slice none 0 0, .slice none 0 0, .slice none 0 0, .slice none 0 0, .slice none 0 0, .slice none 0 0, .slice none 0 0, .slice none 0 0, .slice none 0 0, .slice none 0 0, .slice none 0 0, .slice none 0 0, .slice none 0 0, .slice none 0 0, .slice none 0 0, .slice none 0 0, .slice none 0 0, .slice none 0 0, .slice none 0 0, .slice none 0 0, .slice none 0 0, .slice none 0 0, .slice none 0 0, .slice none 0 0, .slice none 0 0, .slice none 0 0] 93) = w1 at hb1 hb2 hB ⊢
  have HB := Aside0.mk hB
  have HG1 := Aside0.mk hb1
  have HG2 := Aside0.mk hb2
  obtain ⟨gr, hgr⟩ : ∃ gr, gr = w.heap.size + 1 := ⟨_, rfl⟩
  obtain ⟨gb, hgb⟩ : ∃ gb, gb = w.heap.size := ⟨_, rfl⟩
  have HGE := Aside0.mk (And.intro hgb hgr)
  rw [← hgr] at HG2 ⊢
  rw [← hgb] at HG1 ⊢
  clear hgr hgb hB hb1 hb2
  replace HR := Aside0.mk (HR.out.below HB.out)
  replace HO := Aside0.mk (HO.out.below HB.out)
  replace HF := Aside0.mk (HF.out.below HB.out)
  have hc := (blk_cell HG1.out (2 * i + 1)).trans eO
  have hlt := blk_lt HG1.out
  go_upto_region 6 with (go_at_call 78; refine (HCP.out _ HB.out).mono ?_; rintro e w9 ⟨rfl, rfl⟩)
  clear hc hlt HCP
  have HMO := Aside0.mk (fun (W : World) (hW : Below w1.heap.size w1 W) => more_calls _ (r i).1 (by have := HI.out.2.1; omega) bx bz W (HF.out.below hW))
  have HB7 := Aside0.mk (below_drew (Below.refl w1.heap.size w1))
  refine start_ (n := 16) (S := fun w' => w'.heap[gb]? = some (.cells cells 93 (0, 0)) ∧ w'.cell? (ad.add (Kn * 2)) = some (.int .i64 bx) ∧ w'.cell? ⟨(ad.add (Kn * 2)).block, (ad.add (Kn * 2)).off + 1, none⟩ = some (.int .i64 bz)) (ds := [15]) (bb 16 0) (by kernel_rfl) rfl rfl ((by obtain ⟨ad_, e_, h0_, h1_⟩ := (HO.out.below (below_drew (Below.refl w1.heap.size w1))).get HI.out.2.2.2.1; injection e_ with e_; subst e_; rw [HI.out.2.2.2.2] at h0_ h1_; exact ⟨HG1.out, h0_, h1_⟩)) (fun hHeld => ?_)
  generalize hw8 : w1.drew = w8 at HB7 hHeld ⊢
  refine pure_ (i := 0) (N := some 25) (v := ?_) (a' := ?_) (bb 16 1) rfl rfl (by kernel_rfl) (fun _ _ _ h => h) (Or.inl ⟨by rfl, ?_⟩) ?_ ?_
  rotate_left
  · intro w'
    go_simp
    with_reducible rfl
  rotate_left
  · simp only [Act.put, List.setIfInBounds_toArray, List.set_cons_zero, List.set_cons_succ, i64_w, i32_w]
    rfl
  refine pure_ (i := 1) (N := some 26) (v := ?_) (a' := ?_) (bb 16 3) rfl rfl (by kernel_rfl) (fun _ _ _ h => h) (Or.inl ⟨by rfl, ?_⟩) ?_ ?_
  rotate_left
  · intro w'
    go_simp
    with_reducible rfl
  rotate_left
  · simp only [Act.put, List.setIfInBounds_toArray, List.set_cons_zero, List.set_cons_succ, i64_w, i32_w]
    rfl
  refine pure_ (i := 2) (N := some 27) (v := ?_) (a' := ?_) (bb 16 7) rfl rfl (by kernel_rfl) (fun _ _ _ h => h) (Or.inl ⟨by rfl, ?_⟩) ?_ ?_
  rotate_left
  · intro w'
    go_simp
    with_reducible rfl
  rotate_left
  · simp only [Act.put, List.setIfInBounds_toArray, List.set_cons_zero, List.set_cons_succ, i64_w, i32_w]
    rfl
  refine pure_ (i := 3) (N := some 28) (v := ?_) (a' := ?_) (bb 16 15) rfl rfl (by kernel_rfl) (fun _ _ _ h => h) (Or.inl ⟨by rfl, ?_⟩) ?_ ?_
  rotate_left
  · intro w'
    go_simp
    with_reducible rfl
  rotate_left
  · simp only [Act.put, List.setIfInBounds_toArray, List.set_cons_zero, List.set_cons_succ, i64_w, i32_w]
    rfl
  refine take_ (i := 4) (N := some 29) (v := ?_) (a' := ?_) (bb 16 31) rfl rfl (by kernel_rfl) (fun _ _ _ h => h) (Or.inl ⟨by rfl, ?_⟩) hHeld ?_ ?_
  rotate_left
  · intro w' hSw
    obtain ⟨y1, y2, y3⟩ := hSw
    have z1 := (blk_cell y1 (2 * i + 1)).trans eO
    have z2 := (blk_cell y1 (2 * i)).trans eF
    go_simp
    with_reducible rfl
  rotate_left
  · simp only [Act.put, List.setIfInBounds_toArray, List.set_cons_zero, List.set_cons_succ, i64_w, i32_w]
    rfl
  refine pure_ (i := 5) (N := some 30) (v := ?_) (a' := ?_) (bb 16 63) rfl rfl (by kernel_rfl) (fun _ _ _ h => h) (Or.inl ⟨by rfl, ?_⟩) ?_ ?_
  rotate_left
  · intro w'
    go_simp
    with_reducible rfl
  rotate_left
  · simp only [Act.put, List.setIfInBounds_toArray, List.set_cons_zero, List.set_cons_succ, i64_w, i32_w]
    rfl
  refine pure_ (i := 6) (N := some 31) (v := ?_) (a' := ?_) (bb 16 127) rfl rfl (by kernel_rfl) (fun _ _ _ h => h) (Or.inl ⟨by rfl, ?_⟩) ?_ ?_
  rotate_left
  · intro w'
    go_simp
    with_reducible rfl
  rotate_left
  · simp only [Act.put, List.setIfInBounds_toArray, List.set_cons_zero, List.set_cons_succ, i64_w, i32_w]
    rfl
  refine pure_ (i := 7) (N := some 32) (v := ?_) (a' := ?_) (bb 16 255) rfl rfl (by kernel_rfl) (fun _ _ _ h => h) (Or.inl ⟨by rfl, ?_⟩) ?_ ?_
  rotate_left
  · intro w'
    go_simp
    with_reducible rfl
  rotate_left
  · simp only [Act.put, List.setIfInBounds_toArray, List.set_cons_zero, List.set_cons_succ, i64_w, i32_w]
    rfl
  refine take_ (i := 8) (N := some 33) (v := ?_) (a' := ?_) (bb 16 511) rfl rfl (by kernel_rfl) (fun _ _ _ h => h) (Or.inl ⟨by rfl, ?_⟩) hHeld ?_ ?_
  rotate_left
  · intro w' hSw
    obtain ⟨y1, y2, y3⟩ := hSw
    have z1 := (blk_cell y1 (2 * i + 1)).trans eO
    have z2 := (blk_cell y1 (2 * i)).trans eF
    go_simp
    with_reducible rfl
  rotate_left
  · simp only [Act.put, List.setIfInBounds_toArray, List.set_cons_zero, List.set_cons_succ, i64_w, i32_w]
    rfl
  refine pure_ (i := 9) (N := some 34) (v := ?_) (a' := ?_) (bb 16 1023) rfl rfl (by kernel_rfl) (fun _ _ _ h => h) (Or.inl ⟨by rfl, ?_⟩) ?_ ?_
  rotate_left
  · intro w'
    go_simp
    with_reducible rfl
  rotate_left
  · simp only [Act.put, List.setIfInBounds_toArray, List.set_cons_zero, List.set_cons_succ, i64_w, i32_w]
    rfl
  refine pure_ (i := 10) (N := some 35) (v := ?_) (a' := ?_) (bb 16 2047) rfl rfl (by kernel_rfl) (fun _ _ _ h => h) (Or.inl ⟨by rfl, ?_⟩) ?_ ?_
  rotate_left
  · intro w'
    go_simp
    with_reducible rfl
  rotate_left
  · simp only [Act.put, List.setIfInBounds_toArray, List.set_cons_zero, List.set_cons_succ, i64_w, i32_w]
    rfl
  refine take_ (i := 11) (N := some 36) (v := ?_) (a' := ?_) (bb 16 4095) rfl rfl (by kernel_rfl) (fun _ _ _ h => h) (Or.inl ⟨by rfl, ?_⟩) hHeld ?_ ?_
  rotate_left
  · intro w' hSw
    obtain ⟨y1, y2, y3⟩ := hSw
    have z1 := (blk_cell y1 (2 * i + 1)).trans eO
    have z2 := (blk_cell y1 (2 * i)).trans eF
    go_simp
    with_reducible rfl
  rotate_left
  · simp only [Act.put, List.setIfInBounds_toArray, List.set_cons_zero, List.set_cons_succ, i64_w, i32_w]
    rfl
  refine one_ (i := 12) (N := some 37) (bb 16 8191) rfl rfl (by kernel_rfl) (by decide) (fun K hK => ?_)
  refine goes_ Try.func80 (by kernel_rfl) rfl #[.slice A2 M cF, .agg #[.int .i64 bx, .int .i64 bz]] (by rfl) rfl rfl (by (try simp only [List.map_toArray, List.map_cons, List.map_nil]); first | done | rfl | (go_simp; done) | (go_simp; omega)) ?_
  refine Calls.mono (HMO.out _ HB7.out) ?_
  rintro e w' ⟨v9, rfl, hR9, hB9⟩
  refine ⟨_, rfl, ?_⟩
  obtain ⟨A9, c9, rfl, -, -⟩ := hR9.shape
  have HB9 := Aside0.mk (below_step HB7.out hB9)
  have HR9 := Aside0.mk hR9
  generalize hN9 : ((r i).1 ++ [(bx, bz)]).length = N9 at hR9 hK ⊢
  have HN9 := Aside0.mk hN9
  have k1' := (blk_cell (blk_below HG1.out HB9.out) (2 * i)).trans eF
  have k2' := blk_frozen (blk_below HG1.out HB9.out) (2 * i)
  have k3' := blk_lt (blk_below HG1.out HB9.out)
  clear hR9 hB9 hN9
  refine hK.out _ _ ((by obtain ⟨ad_, e_, h0_, h1_⟩ := (HO.out.below HB9.out).get HI.out.2.2.2.1; injection e_ with e_; subst e_; rw [HI.out.2.2.2.2] at h0_ h1_; exact ⟨blk_below HG1.out HB9.out, h0_, h1_⟩)) (fun hHeld => ?_)
  clear hK K
  refine norm_ (a' := ?_) ?_ ?_
  rotate_left
  · show Act.put _ (some 37) _ = _
    simp only [Act.put, List.setIfInBounds_toArray, List.set_cons_zero, List.set_cons_succ, i64_w, i32_w]
    rfl
  refine pure_ (i := 13) (N := some 38) (v := ?_) (a' := ?_) (bb 16 16383) rfl rfl (by kernel_rfl) (fun _ _ _ h => h) (Or.inl ⟨by rfl, ?_⟩) ?_ ?_
  rotate_left
  · intro w'
    go_simp
    with_reducible rfl
  rotate_left
  · simp only [Act.put, List.setIfInBounds_toArray, List.set_cons_zero, List.set_cons_succ, i64_w, i32_w]
    rfl
  refine pure_ (i := 14) (N := some 39) (v := ?_) (a' := ?_) (bb 16 32767) rfl rfl (by kernel_rfl) (fun _ _ _ h => h) (Or.inl ⟨by rfl, ?_⟩) ?_ ?_
  rotate_left
  · intro w'
    go_simp
    with_reducible rfl
  rotate_left
  · simp only [Act.put, List.setIfInBounds_toArray, List.set_cons_zero, List.set_cons_succ, i64_w, i32_w]
    rfl
  refine last_ (i := 15) (N := none) (bb 16 65535) rfl rfl (by kernel_rfl) (by decide) (fun K hK => ?_)
  refine skip_ (by rfl) rfl (show _ = Result.ok Next.skip (World.setCell (w') (⟨gb, 2 * i, none⟩) (.slice A9 N9 c9)) from by first | (go_simp; done) | (go_simp; rfl)) ?_
  refine hK.out _ _ ?_
  clear hK K
  refine done_ (by kernel_rfl) ?_
  clear hHeld k1' k2' k3'
  have hO9 : Rb w' (.slice A9 N9 c9) ((r i).1 ++ [(bx, bz)]) := by have := HR9.out; rw [HN9.out] at this; exact this
  replace HO := Aside0.mk ((HO.out.below HB9.out).put (j := 2 * i) (u := .slice A9 N9 c9) (blk_below HG1.out HB9.out) (by decide))
  clear hw8 HMO HB7 eF
  have k1' : True := trivial
  have k2' : True := trivial
  have k3' : True := trivial
  have hRb : Rb w' (.slice A9 N9 c9) ((r i).1 ++ [(bx, bz)]) := hO9
  have hG1_ := blk_below HG1.out HB9.out
  have HR10 := Aside0.mk (((HR.out.below HB9.out).setF HI.out.1 hRb).put (j := 2 * i) (u := .slice A9 N9 c9) hG1_ (by decide))
  replace HG2 := Aside0.mk (blk_far (blk_below HG2.out HB9.out) (p := ⟨gb, 2 * i, none⟩) (by show gr ≠ gb; have := HGE.out; omega) (.slice A9 N9 c9))
  replace HG1 := Aside0.mk (blk_set hG1_ (2 * i) (.slice A9 N9 c9))
  replace HB := Aside0.mk ((below_step HB.out HB9.out).setCell (p := ⟨gb, 2 * i, none⟩) (by show w.heap.size ≤ gb; have := HGE.out; omega) (.slice A9 N9 c9))
  clear hO9 hRb hG1_ k1' k2' k3' eO
  generalize w'.setCell ⟨gb, 2 * i, none⟩ (.slice A9 N9 c9) = w10 at HB HG1 HG2 HR10 HO ⊢
  generalize cells.setIfInBounds (2 * i) (.slice A9 N9 c9) = cells10 at HR10 HG1
  obtain ⟨vQ, eQ, hQ⟩ := HR10.out.O i HI.out.1
  rw [at_eq] at hQ
  obtain ⟨A3, cQ, rfl, -, -⟩ := hQ.shape
  simp only at eQ hQ
  rw [HNM.out.1] at eQ hQ
  have HCT := Aside0.mk (without_calls _ (r i).2 (by have := HI.out.2.2.1; omega) Kn HI.out.2.2.2.1 w10 hQ)
  have hc := (blk_cell HG1.out (2 * i + 1)).trans eQ
  have hlt := blk_lt HG1.out
  clear hQ
  go_upto_region 8 with (go_at_call 79; refine HCT.out.mono ?_; rintro e w6 ⟨v6, rfl, hR6, hB6⟩; obtain ⟨A6, c6, rfl, -, -⟩ := hR6.shape; have HB6 := Aside0.mk hB6; have HO6 := Aside0.mk hR6; have k2' := blk_frozen (blk_below HG1.out HB6.out) (2 * i + 1); have k3' := Nat.lt_of_lt_of_le hlt HB6.out.size; have k1' := (blk_cell (blk_below HG1.out HB6.out) (2 * i + 1)).trans eQ; generalize hN6 : (List.take Kn (r i).2 ++ List.drop (Kn + 1) (r i).2).length = N6 at hR6 ⊢; have HN6 := Aside0.mk hN6; clear hR6 hB6 hN6 hc hlt)
  clear HCT eQ
  have hRb : Rb w6 (.slice A6 N6 c6) ((r i).2.take Kn ++ (r i).2.drop (Kn + 1)) := by have := HO6.out; rw [HN6.out] at this; exact this
  have hG1_ := blk_below HG1.out HB6.out
  have HR12 := Aside0.mk (((HR10.out.below HB6.out).setO HI.out.1 hRb).put (j := 2 * i + 1) (u := .slice A6 N6 c6) hG1_ (by decide))
  replace HG2 := Aside0.mk (blk_far (blk_below HG2.out HB6.out) (p := ⟨gb, 2 * i + 1, none⟩) (by show gr ≠ gb; have := HGE.out; omega) (.slice A6 N6 c6))
  replace HG1 := Aside0.mk (blk_set hG1_ (2 * i + 1) (.slice A6 N6 c6))
  replace HB := Aside0.mk ((below_step HB.out HB6.out).setCell (p := ⟨gb, 2 * i + 1, none⟩) (by show w.heap.size ≤ gb; have := HGE.out; omega) (.slice A6 N6 c6))
  clear hRb hG1_ k1' k2' k3'
  generalize w6.setCell ⟨gb, 2 * i + 1, none⟩ (.slice A6 N6 c6) = w12 at HB HG1 HG2 HR12 ⊢
  generalize cells10.setIfInBounds (2 * i + 1) (.slice A6 N6 c6) = cells12 at HR12 HG1
  have HRX := Aside0.mk (show Rf w12 cells12 (at_ r i ((r i).1 ++ [(bx, bz)], (r i).2.take Kn ++ (r i).2.drop (Kn + 1))) by have := HR12.out; simpa only [at_at, at_eq] using this)
  clear HR12 k0 k1 k2 k3 k4
  go_wp2_with (first | ((with_reducible refine wpList_load_row rfl 93 (.tmp 3) rfl gb rfl 93 cells12 (0, 0) _ HG1.out Try.underlying93 rfl ?hi ?_); (case hi => rw [info93, HRX.out.sz])) | ((with_reducible refine store_step rfl (.tmp 6) (.tmp 49) rfl rfl gr cells12 rfl rfl _ HG2.out HRX.out.sz rfl HRX.out.one ?_)))
  refine bodyPost_ret (results_ct rfl _ _ gr 93 cells12 (0, 0) _ rfl (setRow_heap w12 gr _ cells12 93 (0, 0) HG2.out) Try.underlying93 rfl (by rw [info93, HRX.out.sz])) rfl ?_
  exact ⟨_, rfl, HRX.out.row HG2.out (by decide), row_below HB.out (by have := HGE.out; omega) _⟩
end Go.Proofs.Ytfmfpofbefgbgaa.HPoolR
