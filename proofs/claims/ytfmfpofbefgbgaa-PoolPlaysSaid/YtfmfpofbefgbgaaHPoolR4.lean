/- pool's reference: Remove, Take, Give, Provide where they say no. Conditions: each theorem's own. -/
import Derived.Test.YtfmfpofbefgbgaaHPoolR3
namespace Go.Proofs.Ytfmfpofbefgbgaa.HPoolR
open Go.RowKit Go.Proofs.YtfmfpofbefgbgaaW.PrintWords Go.Proofs.YtfmfpofbefgbgaaW.PrintLast Go.Proofs.YtfmfpofbefgbgaaW.PrintMore Go.Proofs.Ytfmfpofbefgbgaa.HPoolS Go.Proofs.Ytfmfpofbefgbgaa.HPool Go.Proofs.Ytfmfpofbefgbgaa.PPoolL Go.Proofs.Ytfmfpofbefgbgaa.HReg Go.Proofs.Ytfmfpofbefgbgaa.HSl
set_option linter.unusedVariables false
set_option linter.unusedSimpArgs false
set_option linter.unusedSectionVars false
theorem boxed (w : World) (o1 o2 : Obj) : ((w.alloc o1).alloc o2).heap[w.heap.size]? = some o1 ∧ ((w.alloc o1).alloc o2).heap[w.heap.size + 1]? = some o2 ∧ Below w.heap.size w ((w.alloc o1).alloc o2) := by
  have h1 := below_alloc (Below.refl w.heap.size w) o1
  have e : (w.alloc o1).heap.size = w.heap.size + 1 := by simp
  refine ⟨blk_below (blk_new w o1) (below_alloc (Below.refl _ _) o2), ?_, below_step h1 (below_alloc (Below.refl _ _) o2)⟩
  have := blk_new (w.alloc o1) o2
  rwa [e] at this
theorem store_step {ops : Array Oper} {rest : List Oper} {o : Oper} {a : Act} {w : World} {Q : Exit → Act → World → Prop} (hgd : o.guard = none) (x y : Operand) (ho : o.op = .store 93 x y) (hd : o.dst = none)
    (g : Nat) (cells : Array Value) (hx : a.eval x = .pointer (some ⟨g, 0, none⟩)) (hy : a.eval y = .agg cells) (old : Array Value) (hg : w.heap[g]? = some (.cells old 93 (0, 0))) (hs : cells.size = 32) (hold : old.size = 32) (h1 : cells.all (·.oneCell') = true)
    (h : wpList Try.prog ops Q rest a (w.setRow g cells)) : wpList Try.prog ops Q (o :: rest) a w :=
  wpList_plain hgd fun _ hK => wp_store_row (P := Try.prog) 93 x y ho g cells hx hy 93 old hg (by rw [info93, hs]) (by rw [hold, hs]) h1 (hK _ _ (by rw [hd]; exact h))
theorem row_below {B g : Nat} {w0 w : World} (h : Below B w0 w) (hg : B ≤ g) (cs : Array Value) : Below B w0 (w.setRow g cs) := ⟨h.os, h.tape, h.output, Nat.le_trans h.size (by simp), fun k hk => (setRow_other w g k cs (by omega)).trans (h.block k hk)⟩
set_option maxRecDepth 100000 in
set_option maxHeartbeats 4000000 in
theorem rremove_bad (cells : Array Value) (r : RS) (w : World) (h : Rf w cells r) (g n : Int) (hb : Out g ∨ n < 0) : Calls Try.prog 54 #[.agg cells, .int .i64 g, .int .i64 n] w fun e w' => e = .returned (.tuple #[.agg cells, .int .i64 0, .int .i64 1]) ∧ Below w.heap.size w w' := by
  have HR := Aside0.mk h
  clear h
  by_cases c0 : g < 0
  · have d0 : decide (g < 0) = true := decide_eq_true c0
    clear hb c0
    go_enter Try.func54, Try.ntmps54
    go_upto_region 1 with (fail)
    obtain ⟨hb1, hb2, hB⟩ := boxed w (.cells cells 93) (.cells #[.slice none 0 0, .slice none 0 0, .slice none 0 0, .slice none 0 0, .slice none 0 0, .slice none 0 0, .slice none 0 0, .slice none 0 0, .slice none 0 0, .slice none 0 0, .slice none 0 0, .slice none 0 0, .slice none 0 0, .slice none 0 0, .slice none 0 0, .slice none 0 0, .slice none 0 0, .slice none 0 0, .slice none 0 0, .slice none 0 0, .slice none 0 0, .slice none 0 0, .slice none 0 0, .slice none 0 0, .slice none 0 0, .slice none 0 0, .slice none 0 0, .slice none 0 0, .slice none 0 0, .slice none 0 0, .slice none 0 0, .slice none 0 0] 93)
    generalize (w.alloc (.cells cells 93)).alloc (.cells #[.slice none 0 0, .slice none 0 0, .slice none 0 0, .slice none 0 0, .slice none 0 0, .slice none 0 0, .slice none 0 0, .slice none 0 0, .slice none 0 0, .slice none 0 0, .slice none 0 0, .slice none 0 0, .slice none 0 0, .slice none 0 0, .slice none 0 0, .slice none 0 0, .slice none 0 0, .slice none 0 0, .slice none 0 0, .slice none 0 0, .slice none 0 0, .slice none 0 0, .slice none 0 0, .slice none 0 0, .slice none 0 0, .slice none 0 0, .slice none 0 0, .slice none 0 0, .slice none 0 0, .slice none 0 0, .slice none 0 0, .slice none 0 0] 93) = w1 at hb1 hb2 hB ⊢
    have HB := Aside0.mk hB
    have HG1 := Aside0.mk hb1
    have HG2 := Aside0.mk hb2
    obtain ⟨gr, hgr⟩ : ∃ gr, gr = w.heap.size + 1 := ⟨_, rfl⟩
    obtain ⟨gb, hgb⟩ : ∃ gb, gb = w.heap.size := ⟨_, rfl⟩
    have HGE := Aside0.mk (And.intro hgb hgr)
    rw [← hgr] at HG2 ⊢
    rw [← hgb] at HG1 ⊢
    clear hgr hgb hB hb1 hb2
    go_wp2_with (first | ((with_reducible refine wpList_load_row rfl 93 (.tmp 3) rfl gb rfl 93 cells (0, 0) _ HG1.out Try.underlying93 rfl ?hi ?_); (case hi => rw [info93, HR.out.sz])) | ((with_reducible refine store_step rfl (.tmp 6) (.tmp 19) rfl rfl gr cells rfl rfl _ HG2.out HR.out.sz rfl HR.out.one ?_)))
    refine bodyPost_ret (results_ctt rfl _ _ gr 93 cells (0, 0) _ rfl (setRow_heap w1 gr _ cells 93 (0, 0) HG2.out) Try.underlying93 rfl (by rw [info93, HR.out.sz])) rfl ?_
    exact ⟨rfl, row_below HB.out (by have := HGE.out; omega) _⟩
  have d0 : decide (g < 0) = false := decide_eq_false c0
  by_cases c1 : 15 < g
  · have d1 : decide (15 < g) = true := decide_eq_true c1
    clear hb c0 c1
    go_enter Try.func54, Try.ntmps54
    go_upto_region 1 with (fail)
    obtain ⟨hb1, hb2, hB⟩ := boxed w (.cells cells 93) (.cells #[.slice none 0 0, .slice none 0 0, .slice none 0 0, .slice none 0 0, .slice none 0 0, .slice none 0 0, .slice none 0 0, .slice none 0 0, .slice none 0 0, .slice none 0 0, .slice none 0 0, .slice none 0 0, .slice none 0 0, .slice none 0 0, .slice none 0 0, .slice none 0 0, .slice none 0 0, .slice none 0 0, .slice none 0 0, .slice none 0 0, .slice none 0 0, .slice none 0 0, .slice none 0 0, .slice none 0 0, .slice none 0 0, .slice none 0 0, .slice none 0 0, .slice none 0 0, .slice none 0 0, .slice none 0 0, .slice none 0 0, .slice none 0 0] 93)
    generalize (w.alloc (.cells cells 93)).alloc (.cells #[.slice none 0 0, .slice none 0 0, .slice none 0 0, .slice none 0 0, .slice none 0 0, .slice none 0 0, .slice none 0 0, .slice none 0 0, .slice none 0 0, .slice none 0 0, .slice none 0 0, .slice none 0 0, .slice none 0 0, .slice none 0 0, .slice none 0 0, .slice none 0 0, .slice none 0 0, .slice none 0 0, .slice none 0 0, .slice none 0 0, .slice none 0 0, .slice none 0 0, .slice none 0 0, .slice none 0 0, .slice none 0 0, .slice none 0 0, .slice none 0 0, .slice none 0 0, .slice none 0 0, .slice none 0 0, .slice none 0 0, .slice none 0 0] 93) = w1 at hb1 hb2 hB ⊢
    have HB := Aside0.mk hB
    have HG1 := Aside0.mk hb1
    have HG2 := Aside0.mk hb2
    obtain ⟨gr, hgr⟩ : ∃ gr, gr = w.heap.size + 1 := ⟨_, rfl⟩
    obtain ⟨gb, hgb⟩ : ∃ gb, gb = w.heap.size := ⟨_, rfl⟩
    have HGE := Aside0.mk (And.intro hgb hgr)
    rw [← hgr] at HG2 ⊢
    rw [← hgb] at HG1 ⊢
    clear hgr hgb hB hb1 hb2
    go_wp2_with (first | ((with_reducible refine wpList_load_row rfl 93 (.tmp 3) rfl gb rfl 93 cells (0, 0) _ HG1.out Try.underlying93 rfl ?hi ?_); (case hi => rw [info93, HR.out.sz])) | ((with_reducible refine store_step rfl (.tmp 6) (.tmp 19) rfl rfl gr cells rfl rfl _ HG2.out HR.out.sz rfl HR.out.one ?_)))
    refine bodyPost_ret (results_ctt rfl _ _ gr 93 cells (0, 0) _ rfl (setRow_heap w1 gr _ cells 93 (0, 0) HG2.out) Try.underlying93 rfl (by rw [info93, HR.out.sz])) rfl ?_
    exact ⟨rfl, row_below HB.out (by have := HGE.out; omega) _⟩
  have d1 : decide (15 < g) = false := decide_eq_false c1
  have d2 : decide (n < 0) = true := decide_eq_true (by unfold Out at hb; (try unfold Bad at hb); omega)
  clear hb c0 c1
  go_enter Try.func54, Try.ntmps54
  go_upto_region 1 with (fail)
  obtain ⟨hb1, hb2, hB⟩ := boxed w (.cells cells 93) (.cells #[.slice none 0 0, .slice none 0 0, .slice none 0 0, .slice none 0 0, .slice none 0 0, .slice none 0 0, .slice none 0 0, .slice none 0 0, .slice none 0 0, .slice none 0 0, .slice none 0 0, .slice none 0 0, .slice none 0 0, .slice none 0 0, .slice none 0 0, .slice none 0 0, .slice none 0 0, .slice none 0 0, .slice none 0 0, .slice none 0 0, .slice none 0 0, .slice none 0 0, .slice none 0 0, .slice none 0 0, .slice none 0 0, .slice none 0 0, .slice none 0 0, .slice none 0 0, .slice none 0 0, .slice none 0 0, .slice none 0 0, .slice none 0 0] 93)
  generalize (w.alloc (.cells cells 93)).alloc (.cells #[.slice none 0 0, .slice none 0 0, .slice none 0 0, .slice none 0 0, .slice none 0 0, .slice none 0 0, .slice none 0 0, .slice none 0 0, .slice none 0 0, .slice none 0 0, .slice none 0 0, .slice none 0 0, .slice none 0 0, .slice none 0 0, .slice none 0 0, .slice none 0 0, .slice none 0 0, .slice none 0 0, .slice none 0 0, .slice none 0 0, .slice none 0 0, .slice none 0 0, .slice none 0 0, .slice none 0 0, .slice none 0 0, .slice none 0 0, .slice none 0 0, .slice none 0 0, .slice none 0 0, .slice none 0 0, .slice none 0 0, .slice none 0 0] 93) = w1 at hb1 hb2 hB ⊢
  have HB := Aside0.mk hB
  have HG1 := Aside0.mk hb1
  have HG2 := Aside0.mk hb2
  obtain ⟨gr, hgr⟩ : ∃ gr, gr = w.heap.size + 1 := ⟨_, rfl⟩
  obtain ⟨gb, hgb⟩ : ∃ gb, gb = w.heap.size := ⟨_, rfl⟩
  have HGE := Aside0.mk (And.intro hgb hgr)
  rw [← hgr] at HG2 ⊢
  rw [← hgb] at HG1 ⊢
  clear hgr hgb hB hb1 hb2
  go_wp2_with (first | ((with_reducible refine wpList_load_row rfl 93 (.tmp 3) rfl gb rfl 93 cells (0, 0) _ HG1.out Try.underlying93 rfl ?hi ?_); (case hi => rw [info93, HR.out.sz])) | ((with_reducible refine store_step rfl (.tmp 6) (.tmp 19) rfl rfl gr cells rfl rfl _ HG2.out HR.out.sz rfl HR.out.one ?_)))
  refine bodyPost_ret (results_ctt rfl _ _ gr 93 cells (0, 0) _ rfl (setRow_heap w1 gr _ cells 93 (0, 0) HG2.out) Try.underlying93 rfl (by rw [info93, HR.out.sz])) rfl ?_
  exact ⟨rfl, row_below HB.out (by have := HGE.out; omega) _⟩
theorem results_cttt {P : Program} {fn : Func} {p u v x : Tmp} {ty : TypeId} (h : fn.results = #[.cell p ty, .tmp u, .tmp v, .tmp x]) (tmps : Array Value) (w : World) (g : Nat) (t : TypeId) (cs : Array Value) (fr : Nat × Nat) (d : TypeDesc)
    (hp : tmps.getD p undef = .pointer (some ⟨g, 0, none⟩)) (hg : w.heap[g]? = some (.cells cs t fr))
    (hu : P.underlying ty = some d) (hd : (match d with | .struct _ | .array _ _ => true | _ => false) = true) (hi : (P.info? ty).map (·.size) = some cs.size) :
    (results fn tmps).run P w = .ok (.tuple #[.agg cs, tmps.getD u undef, tmps.getD v undef, tmps.getD x undef]) w := by
  have hp' : tmps[p]?.getD undef = .pointer (some ⟨g, 0, none⟩) := by simpa using hp
  simp [results, h, hp', asAddr, run_loadVar_row w g t ty cs fr d hg hu hd hi, Result.andThen]
set_option maxRecDepth 100000 in
set_option maxHeartbeats 4000000 in
theorem rtake_bad (cells : Array Value) (r : RS) (w : World) (h : Rf w cells r) (g  : Int) (hb : Out g) : Calls Try.prog 52 #[.agg cells, .int .i64 g] w fun e w' => e = .returned (.tuple #[.agg cells, .int .i64 0, .int .i64 0, .int .i64 1]) ∧ Below w.heap.size w w' := by
  have HR := Aside0.mk h
  clear h
  by_cases c0 : g < 0
  · have d0 : decide (g < 0) = true := decide_eq_true c0
    clear hb c0
    go_enter Try.func52, Try.ntmps52
    go_upto_region 1 with (fail)
    obtain ⟨hb1, hb2, hB⟩ := boxed w (.cells cells 93) (.cells #[.slice none 0 0, .slice none 0 0, .slice none 0 0, .slice none 0 0, .slice none 0 0, .slice none 0 0, .slice none 0 0, .slice none 0 0, .slice none 0 0, .slice none 0 0, .slice none 0 0, .slice none 0 0, .slice none 0 0, .slice none 0 0, .slice none 0 0, .slice none 0 0, .slice none 0 0, .slice none 0 0, .slice none 0 0, .slice none 0 0, .slice none 0 0, .slice none 0 0, .slice none 0 0, .slice none 0 0, .slice none 0 0, .slice none 0 0, .slice none 0 0, .slice none 0 0, .slice none 0 0, .slice none 0 0, .slice none 0 0, .slice none 0 0] 93)
    generalize (w.alloc (.cells cells 93)).alloc (.cells #[.slice none 0 0, .slice none 0 0, .slice none 0 0, .slice none 0 0, .slice none 0 0, .slice none 0 0, .slice none 0 0, .slice none 0 0, .slice none 0 0, .slice none 0 0, .slice none 0 0, .slice none 0 0, .slice none 0 0, .slice none 0 0, .slice none 0 0, .slice none 0 0, .slice none 0 0, .slice none 0 0, .slice none 0 0, .slice none 0 0, .slice none 0 0, .slice none 0 0, .slice none 0 0, .slice none 0 0, .slice none 0 0, .slice none 0 0, .slice none 0 0, .slice none 0 0, .slice none 0 0, .slice none 0 0, .slice none 0 0, .slice none 0 0] 93) = w1 at hb1 hb2 hB ⊢
    have HB := Aside0.mk hB
    have HG1 := Aside0.mk hb1
    have HG2 := Aside0.mk hb2
    obtain ⟨gr, hgr⟩ : ∃ gr, gr = w.heap.size + 1 := ⟨_, rfl⟩
    obtain ⟨gb, hgb⟩ : ∃ gb, gb = w.heap.size := ⟨_, rfl⟩
    have HGE := Aside0.mk (And.intro hgb hgr)
    rw [← hgr] at HG2 ⊢
    rw [← hgb] at HG1 ⊢
    clear hgr hgb hB hb1 hb2
    go_wp2_with (first | ((with_reducible refine wpList_load_row rfl 93 (.tmp 2) rfl gb rfl 93 cells (0, 0) _ HG1.out Try.underlying93 rfl ?hi ?_); (case hi => rw [info93, HR.out.sz])) | ((with_reducible refine store_step rfl (.tmp 4) (.tmp 15) rfl rfl gr cells rfl rfl _ HG2.out HR.out.sz rfl HR.out.one ?_)))
    refine bodyPost_ret (results_cttt rfl _ _ gr 93 cells (0, 0) _ rfl (setRow_heap w1 gr _ cells 93 (0, 0) HG2.out) Try.underlying93 rfl (by rw [info93, HR.out.sz])) rfl ?_
    exact ⟨rfl, row_below HB.out (by have := HGE.out; omega) _⟩
  have d0 : decide (g < 0) = false := decide_eq_false c0
  have d1 : decide (15 < g) = true := decide_eq_true (by unfold Out at hb; (try unfold Bad at hb); omega)
  clear hb c0
  go_enter Try.func52, Try.ntmps52
  go_upto_region 1 with (fail)
  obtain ⟨hb1, hb2, hB⟩ := boxed w (.cells cells 93) (.cells #[.slice none 0 0, .slice none 0 0, .slice none 0 0, .slice none 0 0, .slice none 0 0, .slice none 0 0, .slice none 0 0, .slice none 0 0, .slice none 0 0, .slice none 0 0, .slice none 0 0, .slice none 0 0, .slice none 0 0, .slice none 0 0, .slice none 0 0, .slice none 0 0, .slice none 0 0, .slice none 0 0, .slice none 0 0, .slice none 0 0, .slice none 0 0, .slice none 0 0, .slice none 0 0, .slice none 0 0, .slice none 0 0, .slice none 0 0, .slice none 0 0, .slice none 0 0, .slice none 0 0, .slice none 0 0, .slice none 0 0, .slice none 0 0] 93)
  generalize (w.alloc (.cells cells 93)).alloc (.cells #[.slice none 0 0, .slice none 0 0, .slice none 0 0, .slice none 0 0, .slice none 0 0, .slice none 0 0, .slice none 0 0, .slice none 0 0, .slice none 0 0, .slice none 0 0, .slice none 0 0, .slice none 0 0, .slice none 0 0, .slice none 0 0, .slice none 0 0, .slice none 0 0, .slice none 0 0, .slice none 0 0, .slice none 0 0, .slice none 0 0, .slice none 0 0, .slice none 0 0, .slice none 0 0, .slice none 0 0, .slice none 0 0, .slice none 0 0, .slice none 0 0, .slice none 0 0, .slice none 0 0, .slice none 0 0, .slice none 0 0, .slice none 0 0] 93) = w1 at hb1 hb2 hB ⊢
  have HB := Aside0.mk hB
  have HG1 := Aside0.mk hb1
  have HG2 := Aside0.mk hb2
  obtain ⟨gr, hgr⟩ : ∃ gr, gr = w.heap.size + 1 := ⟨_, rfl⟩
  obtain ⟨gb, hgb⟩ : ∃ gb, gb = w.heap.size := ⟨_, rfl⟩
  have HGE := Aside0.mk (And.intro hgb hgr)
  rw [← hgr] at HG2 ⊢
  rw [← hgb] at HG1 ⊢
  clear hgr hgb hB hb1 hb2
  go_wp2_with (first | ((with_reducible refine wpList_load_row rfl 93 (.tmp 2) rfl gb rfl 93 cells (0, 0) _ HG1.out Try.underlying93 rfl ?hi ?_); (case hi => rw [info93, HR.out.sz])) | ((with_reducible refine store_step rfl (.tmp 4) (.tmp 15) rfl rfl gr cells rfl rfl _ HG2.out HR.out.sz rfl HR.out.one ?_)))
  refine bodyPost_ret (results_cttt rfl _ _ gr 93 cells (0, 0) _ rfl (setRow_heap w1 gr _ cells 93 (0, 0) HG2.out) Try.underlying93 rfl (by rw [info93, HR.out.sz])) rfl ?_
  exact ⟨rfl, row_below HB.out (by have := HGE.out; omega) _⟩
set_option maxRecDepth 100000 in
set_option maxHeartbeats 4000000 in
theorem rgive_bad (cells : Array Value) (r : RS) (w : World) (h : Rf w cells r) (g id : Int) (hb : Out g) : Calls Try.prog 53 #[.agg cells, .int .i64 g, .int .i64 id] w fun e w' => e = .returned (.tuple #[.agg cells, .int .i64 1]) ∧ Below w.heap.size w w' := by
  have HR := Aside0.mk h
  clear h
  by_cases c0 : g < 0
  · have d0 : decide (g < 0) = true := decide_eq_true c0
    clear hb c0
    go_enter Try.func53, Try.ntmps53
    go_upto_region 1 with (fail)
    obtain ⟨hb1, hb2, hB⟩ := boxed w (.cells cells 93) (.cells #[.slice none 0 0, .slice none 0 0, .slice none 0 0, .slice none 0 0, .slice none 0 0, .slice none 0 0, .slice none 0 0, .slice none 0 0, .slice none 0 0, .slice none 0 0, .slice none 0 0, .slice none 0 0, .slice none 0 0, .slice none 0 0, .slice none 0 0, .slice none 0 0, .slice none 0 0, .slice none 0 0, .slice none 0 0, .slice none 0 0, .slice none 0 0, .slice none 0 0, .slice none 0 0, .slice none 0 0, .slice none 0 0, .slice none 0 0, .slice none 0 0, .slice none 0 0, .slice none 0 0, .slice none 0 0, .slice none 0 0, .slice none 0 0] 93)
    generalize (w.alloc (.cells cells 93)).alloc (.cells #[.slice none 0 0, .slice none 0 0, .slice none 0 0, .slice none 0 0, .slice none 0 0, .slice none 0 0, .slice none 0 0, .slice none 0 0, .slice none 0 0, .slice none 0 0, .slice none 0 0, .slice none 0 0, .slice none 0 0, .slice none 0 0, .slice none 0 0, .slice none 0 0, .slice none 0 0, .slice none 0 0, .slice none 0 0, .slice none 0 0, .slice none 0 0, .slice none 0 0, .slice none 0 0, .slice none 0 0, .slice none 0 0, .slice none 0 0, .slice none 0 0, .slice none 0 0, .slice none 0 0, .slice none 0 0, .slice none 0 0, .slice none 0 0] 93) = w1 at hb1 hb2 hB ⊢
    have HB := Aside0.mk hB
    have HG1 := Aside0.mk hb1
    have HG2 := Aside0.mk hb2
    obtain ⟨gr, hgr⟩ : ∃ gr, gr = w.heap.size + 1 := ⟨_, rfl⟩
    obtain ⟨gb, hgb⟩ : ∃ gb, gb = w.heap.size := ⟨_, rfl⟩
    have HGE := Aside0.mk (And.intro hgb hgr)
    rw [← hgr] at HG2 ⊢
    rw [← hgb] at HG1 ⊢
    clear hgr hgb hB hb1 hb2
    go_wp2_with (first | ((with_reducible refine wpList_load_row rfl 93 (.tmp 3) rfl gb rfl 93 cells (0, 0) _ HG1.out Try.underlying93 rfl ?hi ?_); (case hi => rw [info93, HR.out.sz])) | ((with_reducible refine store_step rfl (.tmp 6) (.tmp 15) rfl rfl gr cells rfl rfl _ HG2.out HR.out.sz rfl HR.out.one ?_)))
    refine bodyPost_ret (results_ct rfl _ _ gr 93 cells (0, 0) _ rfl (setRow_heap w1 gr _ cells 93 (0, 0) HG2.out) Try.underlying93 rfl (by rw [info93, HR.out.sz])) rfl ?_
    exact ⟨rfl, row_below HB.out (by have := HGE.out; omega) _⟩
  have d0 : decide (g < 0) = false := decide_eq_false c0
  have d1 : decide (15 < g) = true := decide_eq_true (by unfold Out at hb; (try unfold Bad at hb); omega)
  clear hb c0
  go_enter Try.func53, Try.ntmps53
  go_upto_region 1 with (fail)
  obtain ⟨hb1, hb2, hB⟩ := boxed w (.cells cells 93) (.cells #[.slice none 0 0, .slice none 0 0, .slice none 0 0, .slice none 0 0, .slice none 0 0, .slice none 0 0, .slice none 0 0, .slice none 0 0, .slice none 0 0, .slice none 0 0, .slice none 0 0, .slice none 0 0, .slice none 0 0, .slice none 0 0, .slice none 0 0, .slice none 0 0, .slice none 0 0, .slice none 0 0, .slice none 0 0, .slice none 0 0, .slice none 0 0, .slice none 0 0, .slice none 0 0, .slice none 0 0, .slice none 0 0, .slice none 0 0, .slice none 0 0, .slice none 0 0, .slice none 0 0, .slice none 0 0, .slice none 0 0, .slice none 0 0] 93)
  generalize (w.alloc (.cells cells 93)).alloc (.cells #[.slice none 0 0, .slice none 0 0, .slice none 0 0, .slice none 0 0, .slice none 0 0, .slice none 0 0, .slice none 0 0, .slice none 0 0, .slice none 0 0, .slice none 0 0, .slice none 0 0, .slice none 0 0, .slice none 0 0, .slice none 0 0, .slice none 0 0, .slice none 0 0, .slice none 0 0, .slice none 0 0, .slice none 0 0, .slice none 0 0, .slice none 0 0, .slice none 0 0, .slice none 0 0, .slice none 0 0, .slice none 0 0, .slice none 0 0, .slice none 0 0, .slice none 0 0, .slice none 0 0, .slice none 0 0, .slice none 0 0, .slice none 0 0] 93) = w1 at hb1 hb2 hB ⊢
  have HB := Aside0.mk hB
  have HG1 := Aside0.mk hb1
  have HG2 := Aside0.mk hb2
  obtain ⟨gr, hgr⟩ : ∃ gr, gr = w.heap.size + 1 := ⟨_, rfl⟩
  obtain ⟨gb, hgb⟩ : ∃ gb, gb = w.heap.size := ⟨_, rfl⟩
  have HGE := Aside0.mk (And.intro hgb hgr)
  rw [← hgr] at HG2 ⊢
  rw [← hgb] at HG1 ⊢
  clear hgr hgb hB hb1 hb2
  go_wp2_with (first | ((with_reducible refine wpList_load_row rfl 93 (.tmp 3) rfl gb rfl 93 cells (0, 0) _ HG1.out Try.underlying93 rfl ?hi ?_); (case hi => rw [info93, HR.out.sz])) | ((with_reducible refine store_step rfl (.tmp 6) (.tmp 15) rfl rfl gr cells rfl rfl _ HG2.out HR.out.sz rfl HR.out.one ?_)))
  refine bodyPost_ret (results_ct rfl _ _ gr 93 cells (0, 0) _ rfl (setRow_heap w1 gr _ cells 93 (0, 0) HG2.out) Try.underlying93 rfl (by rw [info93, HR.out.sz])) rfl ?_
  exact ⟨rfl, row_below HB.out (by have := HGE.out; omega) _⟩
set_option maxRecDepth 100000 in
set_option maxHeartbeats 4000000 in
theorem rprovide_bad (cells : Array Value) (r : RS) (w : World) (h : Rf w cells r) (g f n z : Int) (hb : Out g ∨ Bad f n z) : Calls Try.prog 51 #[.agg cells, .int .i64 g, .int .i64 f, .int .i64 n, .int .i64 z] w fun e w' => e = .returned (.tuple #[.agg cells, .int .i64 1]) ∧ Below w.heap.size w w' := by
  have HR := Aside0.mk h
  clear h
  by_cases c0 : g < 0
  · have d0 : decide (g < 0) = true := decide_eq_true c0
    clear hb c0
    go_enter Try.func51, Try.ntmps51
    go_upto_region 1 with (fail)
    obtain ⟨hb1, hb2, hB⟩ := boxed w (.cells cells 93) (.cells #[.slice none 0 0, .slice none 0 0, .slice none 0 0, .slice none 0 0, .slice none 0 0, .slice none 0 0, .slice none 0 0, .slice none 0 0, .slice none 0 0, .slice none 0 0, .slice none 0 0, .slice none 0 0, .slice none 0 0, .slice none 0 0, .slice none 0 0, .slice none 0 0, .slice none 0 0, .slice none 0 0, .slice none 0 0, .slice none 0 0, .slice none 0 0, .slice none 0 0, .slice none 0 0, .slice none 0 0, .slice none 0 0, .slice none 0 0, .slice none 0 0, .slice none 0 0, .slice none 0 0, .slice none 0 0, .slice none 0 0, .slice none 0 0] 93)
    generalize (w.alloc (.cells cells 93)).alloc (.cells #[.slice none 0 0, .slice none 0 0, .slice none 0 0, .slice none 0 0, .slice none 0 0, .slice none 0 0, .slice none 0 0, .slice none 0 0, .slice none 0 0, .slice none 0 0, .slice none 0 0, .slice none 0 0, .slice none 0 0, .slice none 0 0, .slice none 0 0, .slice none 0 0, .slice none 0 0, .slice none 0 0, .slice none 0 0, .slice none 0 0, .slice none 0 0, .slice none 0 0, .slice none 0 0, .slice none 0 0, .slice none 0 0, .slice none 0 0, .slice none 0 0, .slice none 0 0, .slice none 0 0, .slice none 0 0, .slice none 0 0, .slice none 0 0] 93) = w1 at hb1 hb2 hB ⊢
    have HB := Aside0.mk hB
    have HG1 := Aside0.mk hb1
    have HG2 := Aside0.mk hb2
    obtain ⟨gr, hgr⟩ : ∃ gr, gr = w.heap.size + 1 := ⟨_, rfl⟩
    obtain ⟨gb, hgb⟩ : ∃ gb, gb = w.heap.size := ⟨_, rfl⟩
    have HGE := Aside0.mk (And.intro hgb hgr)
    rw [← hgr] at HG2 ⊢
    rw [← hgb] at HG1 ⊢
    clear hgr hgb hB hb1 hb2
    go_wp2_with (first | ((with_reducible refine wpList_load_row rfl 93 (.tmp 5) rfl gb rfl 93 cells (0, 0) _ HG1.out Try.underlying93 rfl ?hi ?_); (case hi => rw [info93, HR.out.sz])) | ((with_reducible refine store_step rfl (.tmp 10) (.tmp 47) rfl rfl gr cells rfl rfl _ HG2.out HR.out.sz rfl HR.out.one ?_)))
    refine bodyPost_ret (results_ct rfl _ _ gr 93 cells (0, 0) _ rfl (setRow_heap w1 gr _ cells 93 (0, 0) HG2.out) Try.underlying93 rfl (by rw [info93, HR.out.sz])) rfl ?_
    exact ⟨rfl, row_below HB.out (by have := HGE.out; omega) _⟩
  have d0 : decide (g < 0) = false := decide_eq_false c0
  by_cases c1 : 15 < g
  · have d1 : decide (15 < g) = true := decide_eq_true c1
    clear hb c0 c1
    go_enter Try.func51, Try.ntmps51
    go_upto_region 1 with (fail)
    obtain ⟨hb1, hb2, hB⟩ := boxed w (.cells cells 93) (.cells #[.slice none 0 0, .slice none 0 0, .slice none 0 0, .slice none 0 0, .slice none 0 0, .slice none 0 0, .slice none 0 0, .slice none 0 0, .slice none 0 0, .slice none 0 0, .slice none 0 0, .slice none 0 0, .slice none 0 0, .slice none 0 0, .slice none 0 0, .slice none 0 0, .slice none 0 0, .slice none 0 0, .slice none 0 0, .slice none 0 0, .slice none 0 0, .slice none 0 0, .slice none 0 0, .slice none 0 0, .slice none 0 0, .slice none 0 0, .slice none 0 0, .slice none 0 0, .slice none 0 0, .slice none 0 0, .slice none 0 0, .slice none 0 0] 93)
    generalize (w.alloc (.cells cells 93)).alloc (.cells #[.slice none 0 0, .slice none 0 0, .slice none 0 0, .slice none 0 0, .slice none 0 0, .slice none 0 0, .slice none 0 0, .slice none 0 0, .slice none 0 0, .slice none 0 0, .slice none 0 0, .slice none 0 0, .slice none 0 0, .slice none 0 0, .slice none 0 0, .slice none 0 0, .slice none 0 0, .slice none 0 0, .slice none 0 0, .slice none 0 0, .slice none 0 0, .slice none 0 0, .slice none 0 0, .slice none 0 0, .slice none 0 0, .slice none 0 0, .slice none 0 0, .slice none 0 0, .slice none 0 0, .slice none 0 0, .slice none 0 0, .slice none 0 0] 93) = w1 at hb1 hb2 hB ⊢
    have HB := Aside0.mk hB
    have HG1 := Aside0.mk hb1
    have HG2 := Aside0.mk hb2
    obtain ⟨gr, hgr⟩ : ∃ gr, gr = w.heap.size + 1 := ⟨_, rfl⟩
    obtain ⟨gb, hgb⟩ : ∃ gb, gb = w.heap.size := ⟨_, rfl⟩
    have HGE := Aside0.mk (And.intro hgb hgr)
    rw [← hgr] at HG2 ⊢
    rw [← hgb] at HG1 ⊢
    clear hgr hgb hB hb1 hb2
    go_wp2_with (first | ((with_reducible refine wpList_load_row rfl 93 (.tmp 5) rfl gb rfl 93 cells (0, 0) _ HG1.out Try.underlying93 rfl ?hi ?_); (case hi => rw [info93, HR.out.sz])) | ((with_reducible refine store_step rfl (.tmp 10) (.tmp 47) rfl rfl gr cells rfl rfl _ HG2.out HR.out.sz rfl HR.out.one ?_)))
    refine bodyPost_ret (results_ct rfl _ _ gr 93 cells (0, 0) _ rfl (setRow_heap w1 gr _ cells 93 (0, 0) HG2.out) Try.underlying93 rfl (by rw [info93, HR.out.sz])) rfl ?_
    exact ⟨rfl, row_below HB.out (by have := HGE.out; omega) _⟩
  have d1 : decide (15 < g) = false := decide_eq_false c1
  by_cases c2 : n < 1
  · have d2 : decide (n < 1) = true := decide_eq_true c2
    clear hb c0 c1 c2
    go_enter Try.func51, Try.ntmps51
    go_upto_region 1 with (fail)
    obtain ⟨hb1, hb2, hB⟩ := boxed w (.cells cells 93) (.cells #[.slice none 0 0, .slice none 0 0, .slice none 0 0, .slice none 0 0, .slice none 0 0, .slice none 0 0, .slice none 0 0, .slice none 0 0, .slice none 0 0, .slice none 0 0, .slice none 0 0, .slice none 0 0, .slice none 0 0, .slice none 0 0, .slice none 0 0, .slice none 0 0, .slice none 0 0, .slice none 0 0, .slice none 0 0, .slice none 0 0, .slice none 0 0, .slice none 0 0, .slice none 0 0, .slice none 0 0, .slice none 0 0, .slice none 0 0, .slice none 0 0, .slice none 0 0, .slice none 0 0, .slice none 0 0, .slice none 0 0, .slice none 0 0] 93)
    generalize (w.alloc (.cells cells 93)).alloc (.cells #[.slice none 0 0, .slice none 0 0, .slice none 0 0, .slice none 0 0, .slice none 0 0, .slice none 0 0, .slice none 0 0, .slice none 0 0, .slice none 0 0, .slice none 0 0, .slice none 0 0, .slice none 0 0, .slice none 0 0, .slice none 0 0, .slice none 0 0, .slice none 0 0, .slice none 0 0, .slice none 0 0, .slice none 0 0, .slice none 0 0, .slice none 0 0, .slice none 0 0, .slice none 0 0, .slice none 0 0, .slice none 0 0, .slice none 0 0, .slice none 0 0, .slice none 0 0, .slice none 0 0, .slice none 0 0, .slice none 0 0, .slice none 0 0] 93) = w1 at hb1 hb2 hB ⊢
    have HB := Aside0.mk hB
    have HG1 := Aside0.mk hb1
    have HG2 := Aside0.mk hb2
    obtain ⟨gr, hgr⟩ : ∃ gr, gr = w.heap.size + 1 := ⟨_, rfl⟩
    obtain ⟨gb, hgb⟩ : ∃ gb, gb = w.heap.size := ⟨_, rfl⟩
    have HGE := Aside0.mk (And.intro hgb hgr)
    rw [← hgr] at HG2 ⊢
    rw [← hgb] at HG1 ⊢
    clear hgr hgb hB hb1 hb2
    go_wp2_with (first | ((with_reducible refine wpList_load_row rfl 93 (.tmp 5) rfl gb rfl 93 cells (0, 0) _ HG1.out Try.underlying93 rfl ?hi ?_); (case hi => rw [info93, HR.out.sz])) | ((with_reducible refine store_step rfl (.tmp 10) (.tmp 47) rfl rfl gr cells rfl rfl _ HG2.out HR.out.sz rfl HR.out.one ?_)))
    refine bodyPost_ret (results_ct rfl _ _ gr 93 cells (0, 0) _ rfl (setRow_heap w1 gr _ cells 93 (0, 0) HG2.out) Try.underlying93 rfl (by rw [info93, HR.out.sz])) rfl ?_
    exact ⟨rfl, row_below HB.out (by have := HGE.out; omega) _⟩
  have d2 : decide (n < 1) = false := decide_eq_false c2
  by_cases c3 : 1024 < n
  · have d3 : decide (1024 < n) = true := decide_eq_true c3
    clear hb c0 c1 c2 c3
    go_enter Try.func51, Try.ntmps51
    go_upto_region 1 with (fail)
    obtain ⟨hb1, hb2, hB⟩ := boxed w (.cells cells 93) (.cells #[.slice none 0 0, .slice none 0 0, .slice none 0 0, .slice none 0 0, .slice none 0 0, .slice none 0 0, .slice none 0 0, .slice none 0 0, .slice none 0 0, .slice none 0 0, .slice none 0 0, .slice none 0 0, .slice none 0 0, .slice none 0 0, .slice none 0 0, .slice none 0 0, .slice none 0 0, .slice none 0 0, .slice none 0 0, .slice none 0 0, .slice none 0 0, .slice none 0 0, .slice none 0 0, .slice none 0 0, .slice none 0 0, .slice none 0 0, .slice none 0 0, .slice none 0 0, .slice none 0 0, .slice none 0 0, .slice none 0 0, .slice none 0 0] 93)
    generalize (w.alloc (.cells cells 93)).alloc (.cells #[.slice none 0 0, .slice none 0 0, .slice none 0 0, .slice none 0 0, .slice none 0 0, .slice none 0 0, .slice none 0 0, .slice none 0 0, .slice none 0 0, .slice none 0 0, .slice none 0 0, .slice none 0 0, .slice none 0 0, .slice none 0 0, .slice none 0 0, .slice none 0 0, .slice none 0 0, .slice none 0 0, .slice none 0 0, .slice none 0 0, .slice none 0 0, .slice none 0 0, .slice none 0 0, .slice none 0 0, .slice none 0 0, .slice none 0 0, .slice none 0 0, .slice none 0 0, .slice none 0 0, .slice none 0 0, .slice none 0 0, .slice none 0 0] 93) = w1 at hb1 hb2 hB ⊢
    have HB := Aside0.mk hB
    have HG1 := Aside0.mk hb1
    have HG2 := Aside0.mk hb2
    obtain ⟨gr, hgr⟩ : ∃ gr, gr = w.heap.size + 1 := ⟨_, rfl⟩
    obtain ⟨gb, hgb⟩ : ∃ gb, gb = w.heap.size := ⟨_, rfl⟩
    have HGE := Aside0.mk (And.intro hgb hgr)
    rw [← hgr] at HG2 ⊢
    rw [← hgb] at HG1 ⊢
    clear hgr hgb hB hb1 hb2
    go_wp2_with (first | ((with_reducible refine wpList_load_row rfl 93 (.tmp 5) rfl gb rfl 93 cells (0, 0) _ HG1.out Try.underlying93 rfl ?hi ?_); (case hi => rw [info93, HR.out.sz])) | ((with_reducible refine store_step rfl (.tmp 10) (.tmp 47) rfl rfl gr cells rfl rfl _ HG2.out HR.out.sz rfl HR.out.one ?_)))
    refine bodyPost_ret (results_ct rfl _ _ gr 93 cells (0, 0) _ rfl (setRow_heap w1 gr _ cells 93 (0, 0) HG2.out) Try.underlying93 rfl (by rw [info93, HR.out.sz])) rfl ?_
    exact ⟨rfl, row_below HB.out (by have := HGE.out; omega) _⟩
  have d3 : decide (1024 < n) = false := decide_eq_false c3
  have wr2 : wrap64 (65536 - n) = 65536 - n := by unfold wrap64; omega
  have wr1 : IntKind.i64.wrap (65536 - n) = 65536 - n := wid _ (by omega) (by omega)
  by_cases c4 : f < 0
  · have d4 : decide (f < 0) = true := decide_eq_true c4
    clear hb c0 c1 c2 c3 c4
    go_enter Try.func51, Try.ntmps51
    go_upto_region 1 with (fail)
    obtain ⟨hb1, hb2, hB⟩ := boxed w (.cells cells 93) (.cells #[.slice none 0 0, .slice none 0 0, .slice none 0 0, .slice none 0 0, .slice none 0 0, .slice none 0 0, .slice none 0 0, .slice none 0 0, .slice none 0 0, .slice none 0 0, .slice none 0 0, .slice none 0 0, .slice none 0 0, .slice none 0 0, .slice none 0 0, .slice none 0 0, .slice none 0 0, .slice none 0 0, .slice none 0 0, .slice none 0 0, .slice none 0 0, .slice none 0 0, .slice none 0 0, .slice none 0 0, .slice none 0 0, .slice none 0 0, .slice none 0 0, .slice none 0 0, .slice none 0 0, .slice none 0 0, .slice none 0 0, .slice none 0 0] 93)
    generalize (w.alloc (.cells cells 93)).alloc (.cells #[.slice none 0 0, .slice none 0 0, .slice none 0 0, .slice none 0 0, .slice none 0 0, .slice none 0 0, .slice none 0 0, .slice none 0 0, .slice none 0 0, .slice none 0 0, .slice none 0 0, .slice none 0 0, .slice none 0 0, .slice none 0 0, .slice none 0 0, .slice none 0 0, .slice none 0 0, .slice none 0 0, .slice none 0 0, .slice none 0 0, .slice none 0 0, .slice none 0 0, .slice none 0 0, .slice none 0 0, .slice none 0 0, .slice none 0 0, .slice none 0 0, .slice none 0 0, .slice none 0 0, .slice none 0 0, .slice none 0 0, .slice none 0 0] 93) = w1 at hb1 hb2 hB ⊢
    have HB := Aside0.mk hB
    have HG1 := Aside0.mk hb1
    have HG2 := Aside0.mk hb2
    obtain ⟨gr, hgr⟩ : ∃ gr, gr = w.heap.size + 1 := ⟨_, rfl⟩
    obtain ⟨gb, hgb⟩ : ∃ gb, gb = w.heap.size := ⟨_, rfl⟩
    have HGE := Aside0.mk (And.intro hgb hgr)
    rw [← hgr] at HG2 ⊢
    rw [← hgb] at HG1 ⊢
    clear hgr hgb hB hb1 hb2
    go_wp2_with (first | ((with_reducible refine wpList_load_row rfl 93 (.tmp 5) rfl gb rfl 93 cells (0, 0) _ HG1.out Try.underlying93 rfl ?hi ?_); (case hi => rw [info93, HR.out.sz])) | ((with_reducible refine store_step rfl (.tmp 10) (.tmp 47) rfl rfl gr cells rfl rfl _ HG2.out HR.out.sz rfl HR.out.one ?_)))
    refine bodyPost_ret (results_ct rfl _ _ gr 93 cells (0, 0) _ rfl (setRow_heap w1 gr _ cells 93 (0, 0) HG2.out) Try.underlying93 rfl (by rw [info93, HR.out.sz])) rfl ?_
    exact ⟨rfl, row_below HB.out (by have := HGE.out; omega) _⟩
  have d4 : decide (f < 0) = false := decide_eq_false c4
  by_cases c5 : 65536 - n < f
  · have d5 : decide (65536 - n < f) = true := decide_eq_true c5
    clear hb c0 c1 c2 c3 c4 c5
    go_enter Try.func51, Try.ntmps51
    go_upto_region 1 with (fail)
    obtain ⟨hb1, hb2, hB⟩ := boxed w (.cells cells 93) (.cells #[.slice none 0 0, .slice none 0 0, .slice none 0 0, .slice none 0 0, .slice none 0 0, .slice none 0 0, .slice none 0 0, .slice none 0 0, .slice none 0 0, .slice none 0 0, .slice none 0 0, .slice none 0 0, .slice none 0 0, .slice none 0 0, .slice none 0 0, .slice none 0 0, .slice none 0 0, .slice none 0 0, .slice none 0 0, .slice none 0 0, .slice none 0 0, .slice none 0 0, .slice none 0 0, .slice none 0 0, .slice none 0 0, .slice none 0 0, .slice none 0 0, .slice none 0 0, .slice none 0 0, .slice none 0 0, .slice none 0 0, .slice none 0 0] 93)
    generalize (w.alloc (.cells cells 93)).alloc (.cells #[.slice none 0 0, .slice none 0 0, .slice none 0 0, .slice none 0 0, .slice none 0 0, .slice none 0 0, .slice none 0 0, .slice none 0 0, .slice none 0 0, .slice none 0 0, .slice none 0 0, .slice none 0 0, .slice none 0 0, .slice none 0 0, .slice none 0 0, .slice none 0 0, .slice none 0 0, .slice none 0 0, .slice none 0 0, .slice none 0 0, .slice none 0 0, .slice none 0 0, .slice none 0 0, .slice none 0 0, .slice none 0 0, .slice none 0 0, .slice none 0 0, .slice none 0 0, .slice none 0 0, .slice none 0 0, .slice none 0 0, .slice none 0 0] 93) = w1 at hb1 hb2 hB ⊢
    have HB := Aside0.mk hB
    have HG1 := Aside0.mk hb1
    have HG2 := Aside0.mk hb2
    obtain ⟨gr, hgr⟩ : ∃ gr, gr = w.heap.size + 1 := ⟨_, rfl⟩
    obtain ⟨gb, hgb⟩ : ∃ gb, gb = w.heap.size := ⟨_, rfl⟩
    have HGE := Aside0.mk (And.intro hgb hgr)
    rw [← hgr] at HG2 ⊢
    rw [← hgb] at HG1 ⊢
    clear hgr hgb hB hb1 hb2
    go_wp2_with (first | ((with_reducible refine wpList_load_row rfl 93 (.tmp 5) rfl gb rfl 93 cells (0, 0) _ HG1.out Try.underlying93 rfl ?hi ?_); (case hi => rw [info93, HR.out.sz])) | ((with_reducible refine store_step rfl (.tmp 10) (.tmp 47) rfl rfl gr cells rfl rfl _ HG2.out HR.out.sz rfl HR.out.one ?_)))
    refine bodyPost_ret (results_ct rfl _ _ gr 93 cells (0, 0) _ rfl (setRow_heap w1 gr _ cells 93 (0, 0) HG2.out) Try.underlying93 rfl (by rw [info93, HR.out.sz])) rfl ?_
    exact ⟨rfl, row_below HB.out (by have := HGE.out; omega) _⟩
  have d5 : decide (65536 - n < f) = false := decide_eq_false c5
  by_cases c6 : z < 1
  · have d6 : decide (z < 1) = true := decide_eq_true c6
    clear hb c0 c1 c2 c3 c4 c5 c6
    go_enter Try.func51, Try.ntmps51
    go_upto_region 1 with (fail)
    obtain ⟨hb1, hb2, hB⟩ := boxed w (.cells cells 93) (.cells #[.slice none 0 0, .slice none 0 0, .slice none 0 0, .slice none 0 0, .slice none 0 0, .slice none 0 0, .slice none 0 0, .slice none 0 0, .slice none 0 0, .slice none 0 0, .slice none 0 0, .slice none 0 0, .slice none 0 0, .slice none 0 0, .slice none 0 0, .slice none 0 0, .slice none 0 0, .slice none 0 0, .slice none 0 0, .slice none 0 0, .slice none 0 0, .slice none 0 0, .slice none 0 0, .slice none 0 0, .slice none 0 0, .slice none 0 0, .slice none 0 0, .slice none 0 0, .slice none 0 0, .slice none 0 0, .slice none 0 0, .slice none 0 0] 93)
    generalize (w.alloc (.cells cells 93)).alloc (.cells #[.slice none 0 0, .slice none 0 0, .slice none 0 0, .slice none 0 0, .slice none 0 0, .slice none 0 0, .slice none 0 0, .slice none 0 0, .slice none 0 0, .slice none 0 0, .slice none 0 0, .slice none 0 0, .slice none 0 0, .slice none 0 0, .slice none 0 0, .slice none 0 0, .slice none 0 0, .slice none 0 0, .slice none 0 0, .slice none 0 0, .slice none 0 0, .slice none 0 0, .slice none 0 0, .slice none 0 0, .slice none 0 0, .slice none 0 0, .slice none 0 0, .slice none 0 0, .slice none 0 0, .slice none 0 0, .slice none 0 0, .slice none 0 0] 93) = w1 at hb1 hb2 hB ⊢
    have HB := Aside0.mk hB
    have HG1 := Aside0.mk hb1
    have HG2 := Aside0.mk hb2
    obtain ⟨gr, hgr⟩ : ∃ gr, gr = w.heap.size + 1 := ⟨_, rfl⟩
    obtain ⟨gb, hgb⟩ : ∃ gb, gb = w.heap.size := ⟨_, rfl⟩
    have HGE := Aside0.mk (And.intro hgb hgr)
    rw [← hgr] at HG2 ⊢
    rw [← hgb] at HG1 ⊢
    clear hgr hgb hB hb1 hb2
    go_wp2_with (first | ((with_reducible refine wpList_load_row rfl 93 (.tmp 5) rfl gb rfl 93 cells (0, 0) _ HG1.out Try.underlying93 rfl ?hi ?_); (case hi => rw [info93, HR.out.sz])) | ((with_reducible refine store_step rfl (.tmp 10) (.tmp 47) rfl rfl gr cells rfl rfl _ HG2.out HR.out.sz rfl HR.out.one ?_)))
    refine bodyPost_ret (results_ct rfl _ _ gr 93 cells (0, 0) _ rfl (setRow_heap w1 gr _ cells 93 (0, 0) HG2.out) Try.underlying93 rfl (by rw [info93, HR.out.sz])) rfl ?_
    exact ⟨rfl, row_below HB.out (by have := HGE.out; omega) _⟩
  have d6 : decide (z < 1) = false := decide_eq_false c6
  have d7 : decide (65536 < z) = true := decide_eq_true (by unfold Out at hb; (try unfold Bad at hb); omega)
  clear hb c0 c1 c2 c3 c4 c5 c6
  go_enter Try.func51, Try.ntmps51
  go_upto_region 1 with (fail)
  obtain ⟨hb1, hb2, hB⟩ := boxed w (.cells cells 93) (.cells #[.slice none 0 0, .slice none 0 0, .slice none 0 0, .slice none 0 0, .slice none 0 0, .slice none 0 0, .slice none 0 0, .slice none 0 0, .slice none 0 0, .slice none 0 0, .slice none 0 0, .slice none 0 0, .slice none 0 0, .slice none 0 0, .slice none 0 0, .slice none 0 0, .slice none 0 0, .slice none 0 0, .slice none 0 0, .slice none 0 0, .slice none 0 0, .slice none 0 0, .slice none 0 0, .slice none 0 0, .slice none 0 0, .slice none 0 0, .slice none 0 0, .slice none 0 0, .slice none 0 0, .slice none 0 0, .slice none 0 0, .slice none 0 0] 93)
  generalize (w.alloc (.cells cells 93)).alloc (.cells #[.slice none 0 0, .slice none 0 0, .slice none 0 0, .slice none 0 0, .slice none 0 0, .slice none 0 0, .slice none 0 0, .slice none 0 0, .slice none 0 0, .slice none 0 0, .slice none 0 0, .slice none 0 0, .slice none 0 0, .slice none 0 0, .slice none 0 0, .slice none 0 0, .slice none 0 0, .slice none 0 0, .slice none 0 0, .slice none 0 0, .slice none 0 0, .slice none 0 0, .slice none 0 0, .slice none 0 0, .slice none 0 0, .slice none 0 0, .slice none 0 0, .slice none 0 0, .slice none 0 0, .slice none 0 0, .slice none 0 0, .slice none 0 0] 93) = w1 at hb1 hb2 hB ⊢
  have HB := Aside0.mk hB
  have HG1 := Aside0.mk hb1
  have HG2 := Aside0.mk hb2
  obtain ⟨gr, hgr⟩ : ∃ gr, gr = w.heap.size + 1 := ⟨_, rfl⟩
  obtain ⟨gb, hgb⟩ : ∃ gb, gb = w.heap.size := ⟨_, rfl⟩
  have HGE := Aside0.mk (And.intro hgb hgr)
  rw [← hgr] at HG2 ⊢
  rw [← hgb] at HG1 ⊢
  clear hgr hgb hB hb1 hb2
  go_wp2_with (first | ((with_reducible refine wpList_load_row rfl 93 (.tmp 5) rfl gb rfl 93 cells (0, 0) _ HG1.out Try.underlying93 rfl ?hi ?_); (case hi => rw [info93, HR.out.sz])) | ((with_reducible refine store_step rfl (.tmp 10) (.tmp 47) rfl rfl gr cells rfl rfl _ HG2.out HR.out.sz rfl HR.out.one ?_)))
  refine bodyPost_ret (results_ct rfl _ _ gr 93 cells (0, 0) _ rfl (setRow_heap w1 gr _ cells 93 (0, 0) HG2.out) Try.underlying93 rfl (by rw [info93, HR.out.sz])) rfl ?_
  exact ⟨rfl, row_below HB.out (by have := HGE.out; omega) _⟩
end Go.Proofs.Ytfmfpofbefgbgaa.HPoolR
