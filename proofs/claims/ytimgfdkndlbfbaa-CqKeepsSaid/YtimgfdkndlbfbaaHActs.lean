/- A law's argument that is a slice of structs (each field one cell): its elements, cell by cell. No conditions beyond each lemma's own. -/
import Derived.Test.YtimgfdkndlbfbaaHRow
namespace Go.Proofs.Ytimgfdkndlbfbaa.HActs
open Go.Deep Go.ChangeShapes Go.WideShapes Go.ChangeAt Go.RowKit Go.Proofs.YtimgfdkndlbfbaaW.PrintWords Go.Proofs.YtimgfdkndlbfbaaW.PrintLast Go.Proofs.YtimgfdkndlbfbaaW.PrintMore
section
variable {H : Type} {enc : TypeId × Value → H} {P : Program} {w : World} {base : Nat} {held : Bool}
theorem mapM_cells (w : World) (a : Addr) : ∀ (l : List Nat) (cs : List Value), (l.mapM fun i => w.cell? (a.add i)) = some cs → cs.length = l.length ∧ ∀ (j k : Nat), l[j]? = some k → cs[j]? = w.cell? (a.add k)
  | [], cs, h => by simp at h; subst h; exact ⟨rfl, by simp⟩
  | i :: l, cs, h => by
    simp only [List.mapM_cons, Option.bind_eq_bind, Option.bind_eq_some_iff, Option.pure_def, Option.some.injEq] at h
    obtain ⟨c, hc, cs', hcs, rfl⟩ := h
    obtain ⟨h1, h2⟩ := mapM_cells w a l cs' hcs
    refine ⟨by simp [h1], fun j k hj => ?_⟩
    cases j with
    | zero => simp at hj; subst hj; simpa using hc.symm
    | succ j => simpa using h2 j k (by simpa using hj)
theorem cells_at {a : Addr} {n : Nat} {cs : List Value} (h : w.cells? base a n = some cs) : cs.length = n ∧ ∀ j, j < n → w.cell? (a.add j) = cs[j]? := by
  unfold World.cells? at h
  split at h
  · obtain ⟨h1, h2⟩ := mapM_cells w a _ cs h
    refine ⟨by simpa using h1, fun j hj => (h2 j j (by simp [hj])).symm⟩
  · cases h
/-- The elements of a slice of structs: their cells, and how each field reads. -/
theorem open_structs {t e : TypeId} {fs : Array Field} {c : Value} (ht : P.underlying t = some (.slice e)) (hs : P.underlying e = some (.struct fs)) (hone : oneCellFields P fs = true) (hC : P.cellsOf e = fs.size)
    (h : ∃ (n : Nat) (y : DataW H × List MemPlace), DataW.trod enc P w base (fun _ => true) held n t [c] = some y) :
    ∃ (A : Option Addr) (n cap : Nat), c = .slice A n cap ∧ n ≤ cap ∧ ∀ i, i < n → ∃ ad, A = some ad ∧ ∃ cs : List Value, cs.length = fs.size ∧ (∀ j, j < fs.size → w.cell? ((ad.add (i * fs.size)).add j) = cs[j]?) ∧
      ∀ (j : Nat) (f : Field) (x : Value), fs[j]? = some f → cs[j]? = some x → ∃ (n : Nat) (y : DataW H × List MemPlace), DataW.trod enc P w base (fun _ => true) held n f.type [x] = some y := by
  obtain ⟨fuel, y, h⟩ := h
  rcases DataW.trod_slice ht h with ⟨hcs, _⟩ | ⟨a, len, cap, elems, rest, n, _, hcs, _, _, hlc, _, hlen, hel, _⟩
  · exact ⟨none, 0, 0, by simpa using hcs, Nat.le_refl _, fun i hi => by omega⟩
  · refine ⟨some a, len, cap, by simpa using hcs, hlc, fun i hi => ⟨a, rfl, ?_⟩⟩
    have hE := hel i hi
    rw [hC, List.getElem?_eq_getElem (by omega)] at hE
    simp only [Option.bind_eq_some_iff] at hE
    obtain ⟨cs, hc1, hy1⟩ := hE
    obtain ⟨hl, hcell⟩ := cells_at hc1
    obtain ⟨xs, m, _, _, _, hxl, hx⟩ := DataW.trod_struct hs hy1
    refine ⟨cs, hl, hcell, fun j f x hf hxj => ?_⟩
    obtain ⟨o, k⟩ := hone_of hone j f hf
    have hj := hx j f hf
    have hjl : j < fs.size := (Array.getElem?_eq_some_iff.1 hf).1
    have e1 : (cs.drop f.offset).take (P.cellsOf f.type) = [x] := by
      rw [o, k]
      obtain ⟨hlt, hget⟩ := List.getElem?_eq_some_iff.1 hxj
      rw [List.drop_eq_getElem_cons hlt, hget]
      rfl
    rw [e1, List.getElem?_eq_getElem (by omega)] at hj
    exact ⟨m, _, hj⟩
end
end Go.Proofs.Ytimgfdkndlbfbaa.HActs
