/- Arguments that are structs in structs (an act of port's laws), and slices of them: opened by their cells. Conditions: each lemma's own. -/
import Derived.Test.YtimgfdkndlbfbaaHActs
import Derived.Test.YtimgfdkndlbfbaaHPort
import Derived.ChangeSame
namespace Go.Proofs.Ytimgfdkndlbfbaa.HRow2
open Go.Deep Go.ChangeShapes Go.WideShapes Go.ChangeAt Go.RowKit Go.Proofs.YtimgfdkndlbfbaaW.PrintWords Go.Proofs.YtimgfdkndlbfbaaW.PrintLast Go.Proofs.YtimgfdkndlbfbaaW.PrintMore Go.Proofs.Ytimgfdkndlbfbaa.HPort
set_option linter.unusedVariables false
set_option linter.unusedSimpArgs false
set_option linter.unusedSectionVars false
section
variable {H : Type} {enc : TypeId × Value → H} {P : Program} {w : World} {base : Nat} {spare : Nat → Bool} {held : Bool}
/-- Cells that are read as a type. -/
def Rd (enc : TypeId × Value → H) (P : Program) (w : World) (base : Nat) (spare : Nat → Bool) (held : Bool) (t : TypeId) (cs : List Value) : Prop := ∃ (n : Nat) (y : DataW H × List MemPlace), DataW.trod enc P w base spare held n t cs = some y
theorem rd_int {t : TypeId} {k : IntKind} {cs : List Value} (ht : P.underlying t = some (.int k)) (h : Rd enc P w base spare held t cs) : ∃ a : Int, cs = [.int k a] ∧ (Lit.int k a).wf = true := by
  obtain ⟨n, y, h⟩ := h
  obtain ⟨a, e, _, hw⟩ := DataW.trod_int ht h
  exact ⟨a, e, hw⟩
theorem rd_struct {t : TypeId} {fs : Array Field} {cs : List Value} (ht : P.underlying t = some (.struct fs)) (h : Rd enc P w base spare held t cs) : cs.length = P.cellsOf t ∧ ∀ (i : Nat) (f : Field), fs[i]? = some f → Rd enc P w base spare held f.type ((cs.drop f.offset).take (P.cellsOf f.type)) := by
  obtain ⟨fuel, y, h⟩ := h
  obtain ⟨xs, n, _, _, hl, hlen, hx⟩ := DataW.trod_struct ht h
  refine ⟨hl, fun i f hi => ?_⟩
  have hj := hx i f hi
  have hil : i < fs.size := (Array.getElem?_eq_some_iff.1 hi).1
  rw [List.getElem?_eq_getElem (by omega)] at hj
  exact ⟨n, _, hj⟩
/-- The elements of a slice: their cells, each read as the element's type. -/
theorem rd_slice {t e : TypeId} {c : Value} (ht : P.underlying t = some (.slice e)) (h : ∃ (n : Nat) (y : DataW H × List MemPlace), DataW.trod enc P w base (fun _ => true) held n t [c] = some y) :
    ∃ (A : Option Addr) (n cap : Nat), c = .slice A n cap ∧ n ≤ cap ∧ ∀ i, i < n → ∃ ad, A = some ad ∧ ∃ cs : List Value, cs.length = P.cellsOf e ∧ (∀ j, j < P.cellsOf e → w.cell? ((ad.add (i * P.cellsOf e)).add j) = cs[j]?) ∧ Rd enc P w base (fun _ => true) held e cs := by
  obtain ⟨fuel, y, h⟩ := h
  rcases DataW.trod_slice ht h with ⟨hcs, _⟩ | ⟨a, len, cap, elems, rest, n, _, hcs, _, _, hlc, _, hlen, hel, _⟩
  · exact ⟨none, 0, 0, by simpa using hcs, Nat.le_refl _, fun i hi => by omega⟩
  · refine ⟨some a, len, cap, by simpa using hcs, hlc, fun i hi => ⟨a, rfl, ?_⟩⟩
    have hE := hel i hi
    rw [List.getElem?_eq_getElem (by omega)] at hE
    simp only [Option.bind_eq_some_iff] at hE
    obtain ⟨cs, hc1, hy1⟩ := hE
    obtain ⟨hl, hcell⟩ := HActs.cells_at hc1
    exact ⟨cs, hl, hcell, n, _, hy1⟩
end
theorem list2 {cs : List Value} (h : cs.length = 2) : ∃ c0 c1, cs = [c0, c1] := by
  match cs, h with
  | [c0, c1], _ => exact ⟨c0, c1, rfl⟩
theorem list4 {cs : List Value} (h : cs.length = 4) : ∃ c0 c1 c2 c3, cs = [c0, c1, c2, c3] := by
  match cs, h with
  | [c0, c1, c2, c3], _ => exact ⟨c0, c1, c2, c3, rfl⟩
theorem list6 {cs : List Value} (h : cs.length = 6) : ∃ c0 c1 c2 c3 c4 c5, cs = [c0, c1, c2, c3, c4, c5] := by
  match cs, h with
  | [c0, c1, c2, c3, c4, c5], _ => exact ⟨c0, c1, c2, c3, c4, c5, rfl⟩
section
variable {H : Type} {enc : TypeId × Value → H} {w : World} {base : Nat} {spare : Nat → Bool} {held : Bool}
theorem rd_end {cs : List Value} (h : Rd enc Try.prog w base spare held 105 cs) : ∃ a p, cs = [.int .u32 a, .int .u16 p] ∧ okE (a, p) := by
  obtain ⟨hl, hf⟩ := rd_struct Try.underlying105 h
  obtain ⟨c0, c1, rfl⟩ := list2 (hl.trans (show Try.prog.cellsOf 105 = 2 by kernel_rfl))
  have h0 : Rd enc Try.prog w base spare held 34 (List.take (Try.prog.cellsOf 34) (List.drop 0 [c0, c1])) := hf 0 _ rfl
  have h1 : Rd enc Try.prog w base spare held 35 (List.take (Try.prog.cellsOf 35) (List.drop 1 [c0, c1])) := hf 1 _ rfl
  rw [show Try.prog.cellsOf 34 = 1 by kernel_rfl] at h0
  rw [show Try.prog.cellsOf 35 = 1 by kernel_rfl] at h1
  obtain ⟨a, e0, wa⟩ := rd_int Try.underlying34 h0
  obtain ⟨p, e1, wp⟩ := rd_int Try.underlying35 h1
  injection e0 with e0
  injection e1 with e1
  subst e0; subst e1
  exact ⟨a, p, rfl, wa, wp⟩
theorem rd_quad {cs : List Value} (h : Rd enc Try.prog w base spare held 107 cs) : ∃ a p c d, cs = [.int .u32 a, .int .u16 p, .int .u32 c, .int .u16 d] ∧ okQ ((a, p), (c, d)) := by
  obtain ⟨hl, hf⟩ := rd_struct Try.underlying107 h
  obtain ⟨c0, c1, c2, c3, rfl⟩ := list4 (hl.trans (show Try.prog.cellsOf 107 = 4 by kernel_rfl))
  have h0 : Rd enc Try.prog w base spare held 105 (List.take (Try.prog.cellsOf 105) (List.drop 0 [c0, c1, c2, c3])) := hf 0 _ rfl
  have h1 : Rd enc Try.prog w base spare held 105 (List.take (Try.prog.cellsOf 105) (List.drop 2 [c0, c1, c2, c3])) := hf 1 _ rfl
  rw [show Try.prog.cellsOf 105 = 2 by kernel_rfl] at h0 h1
  obtain ⟨a, p, e0, wa⟩ := rd_end h0
  obtain ⟨c, d, e1, wc⟩ := rd_end h1
  injection e0 with e0 e0'
  injection e0' with e0'
  injection e1 with e1 e1'
  injection e1' with e1'
  subst e0; subst e0'; subst e1; subst e1'
  exact ⟨a, p, c, d, rfl, wa, wc⟩
theorem rd_act {cs : List Value} (h : Rd enc Try.prog w base spare held 109 cs) : ∃ x0 x1 a p c d, cs = [.int .i64 x0, .int .i64 x1, .int .u32 a, .int .u16 p, .int .u32 c, .int .u16 d] ∧ okQ ((a, p), (c, d)) := by
  obtain ⟨hl, hf⟩ := rd_struct Try.underlying109 h
  obtain ⟨c0, c1, c2, c3, c4, c5, rfl⟩ := list6 (hl.trans (show Try.prog.cellsOf 109 = 6 by kernel_rfl))
  have h0 : Rd enc Try.prog w base spare held 3 (List.take (Try.prog.cellsOf 3) (List.drop 0 [c0, c1, c2, c3, c4, c5])) := hf 0 _ rfl
  have h1 : Rd enc Try.prog w base spare held 3 (List.take (Try.prog.cellsOf 3) (List.drop 1 [c0, c1, c2, c3, c4, c5])) := hf 1 _ rfl
  have h2 : Rd enc Try.prog w base spare held 107 (List.take (Try.prog.cellsOf 107) (List.drop 2 [c0, c1, c2, c3, c4, c5])) := hf 2 _ rfl
  rw [show Try.prog.cellsOf 3 = 1 by kernel_rfl] at h0 h1
  rw [show Try.prog.cellsOf 107 = 4 by kernel_rfl] at h2
  obtain ⟨x0, e0, -⟩ := rd_int Try.underlying3 h0
  obtain ⟨x1, e1, -⟩ := rd_int Try.underlying3 h1
  obtain ⟨a, p, c, d, e2, wq⟩ := rd_quad h2
  injection e0 with e0
  injection e1 with e1
  simp only [List.drop_succ_cons, List.drop_zero, List.take_succ_cons, List.take_zero, List.cons.injEq, and_true] at e2
  obtain ⟨e2, e3, e4, e5⟩ := e2
  subst e0; subst e1; subst e2; subst e3; subst e4; subst e5
  exact ⟨x0, x1, a, p, c, d, rfl, wq⟩
set_option maxRecDepth 100000 in
theorem agg_act {r : Reach} {b0 : Nat} {v : Value} {d : DataW H} {p : List MemPlace} (hv : Value.okWide Try.prog w r b0 109 v) (h : DataW.Trod enc Try.prog w base spare held 109 v d p) : ∃ x0 x1 a p c d, v = .agg #[.int .i64 x0, .int .i64 x1, .int .u32 a, .int .u16 p, .int .u32 c, .int .u16 d] ∧ okQ ((a, p), (c, d)) := by
  obtain ⟨cs, rfl, hsz⟩ := okWide_struct Try.underlying109 hv
  obtain ⟨fuel, hf⟩ := h
  obtain ⟨x0, x1, a, p1, c, d1, e, wq⟩ := rd_act (cs := cs.toList) ⟨fuel, (d, p), hf⟩
  refine ⟨x0, x1, a, p1, c, d1, ?_, wq⟩
  have e2 : cs.toList = _ := e
  rw [← Array.toArray_toList (xs := cs), e2]
set_option maxRecDepth 100000 in
theorem agg_quad {r : Reach} {b0 : Nat} {v : Value} {d : DataW H} {p : List MemPlace} (hv : Value.okWide Try.prog w r b0 107 v) (h : DataW.Trod enc Try.prog w base spare held 107 v d p) : ∃ a p c d, v = .agg #[.int .u32 a, .int .u16 p, .int .u32 c, .int .u16 d] ∧ okQ ((a, p), (c, d)) := by
  obtain ⟨cs, rfl, hsz⟩ := okWide_struct Try.underlying107 hv
  obtain ⟨fuel, hf⟩ := h
  obtain ⟨a, p1, c, d1, e, wq⟩ := rd_quad (cs := cs.toList) ⟨fuel, (d, p), hf⟩
  refine ⟨a, p1, c, d1, ?_, wq⟩
  have e2 : cs.toList = _ := e
  rw [← Array.toArray_toList (xs := cs), e2]
end
end Go.Proofs.Ytimgfdkndlbfbaa.HRow2
