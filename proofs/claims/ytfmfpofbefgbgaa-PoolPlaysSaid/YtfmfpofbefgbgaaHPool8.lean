/- pool: a group's row turned (cut, appended to, cloned), a buffer deleted. Conditions: each theorem's own. -/
import Derived.Test.YtfmfpofbefgbgaaHPool7
import Derived.Test.YtfmfpofbefgbgaaHReg
namespace Go.Proofs.Ytfmfpofbefgbgaa.HPool
open Go.RowKit Go.Proofs.YtfmfpofbefgbgaaW.PrintWords Go.Proofs.YtfmfpofbefgbgaaW.PrintLast Go.Proofs.YtfmfpofbefgbgaaW.PrintMore Go.Proofs.Ytfmfpofbefgbgaa.HMap Go.Proofs.Ytfmfpofbefgbgaa.HSl Go.Maps Go.ChangeMaps Go.MapKept
set_option linter.unusedVariables false
set_option linter.unusedSimpArgs false
set_option linter.unusedSectionVars false
section
variable {b0 pb : Nat} {w0 w w' w2 : World} {mp : Nat → Nat} {fv fv' fv2 : Nat → Value} {s : Nat → Gp}
theorem Sl.low {v : Value} {xs : List Int} (h : Sl b0 w v xs) : ∀ k, v.ownBlock = some k → b0 ≤ k ∧ k < w.heap.size := by
  obtain ⟨rfl, -⟩ | ⟨g, o, cap, cur, rfl, hg, hh, hr⟩ := h
  · intro k hk; cases hk
  · intro k hk
    have : g = k := by simpa [Value.ownBlock] using hk
    subst this
    exact ⟨hg, blk_lt hh⟩
theorem grown_refl (w : World) (o : Option Nat) : w.grownBy w o := ⟨rfl, rfl, rfl, Nat.le_refl _, fun _ _ _ => rfl⟩
theorem grown_below {o : Option Nat} (h : Below w.heap.size w w') : w.grownBy w' o := ⟨h.os, h.tape, h.output, h.size, fun k hk _ => h.block k hk⟩
theorem Pb.pbF (h : Pb b0 w pb mp fv s) {i : Nat} (hi : i < 16) : some pb ≠ (fv i).ownBlock := fun e => by
  obtain ⟨cells, h1, -⟩ := h.blk
  obtain ⟨cur, hc⟩ := Sl.own_cells (h.F i hi) e.symm
  rw [h1] at hc
  cases hc
theorem Pb.mpF (h : Pb b0 w pb mp fv s) {i j : Nat} (hi : i < 16) (hj : j < 16) : some (mp j) ≠ (fv i).ownBlock := fun e => by
  obtain ⟨cur, hc⟩ := Sl.own_cells (h.F i hi) e.symm
  exact (h.M j hj).apart hc rfl
/-- A group's row is turned, and stored. -/
theorem Pb.turnF (h : Pb b0 w pb mp fv s) {i : Nat} (hi : i < 16) {v' : Value} {xs' : List Int} (hG : w.grownBy w' (fv i).ownBlock) (hS : Sl b0 w' v' xs') (hown : ∀ k, v'.ownBlock = some k → (fv i).ownBlock = some k ∨ w.heap.size ≤ k) :
    Pb b0 (w'.setCell ⟨pb, 2 * i + 1, none⟩ v') pb mp (at_ fv i v') (at_ s i { s i with fr := xs' }) ∧ Pv w (w'.setCell ⟨pb, 2 * i + 1, none⟩ v') pb mp fv (at_ fv i v') := by
  obtain ⟨cells, h1, h2, h3⟩ := h.blk
  have h1' := blk_grown h1 hG (h.pbF hi)
  have hne : ∀ j, j < 16 → j ≠ i → ∀ k, (fv j).ownBlock = some k → v'.ownBlock ≠ some k := fun j hj hn k hk hq => by
    rcases hown k hq with e | e
    · exact h.apF j i hj hi hn k hk e
    · have := (Sl.low (h.F j hj) k hk).2; omega
  refine ⟨⟨⟨cells.setIfInBounds (2 * i + 1) v', blk_set h1' _ _, by rw [Array.size_setIfInBounds, h2], fun j hj => ⟨?_, ?_⟩⟩, h.lo, fun j hj => ?_, fun j hj => ?_, h.apM, fun j k hj hk hn q hq => ?_⟩, ⟨hG.os, hG.tape, hG.output, ?_, fun k hk hp hm hf => ?_, fun j hj k hk => ?_⟩⟩
  · rw [Array.getElem?_setIfInBounds, if_neg (by omega)]; exact (h3 j hj).1
  · rw [Array.getElem?_setIfInBounds]
    by_cases e : j = i
    · subst e; rw [if_pos rfl, if_pos (by omega), at_eq]
    · rw [if_neg (by omega), at_ne _ _ e]; exact (h3 j hj).2
  · have hM := ((h.M j hj).grown hG (h.mpF hi hj)).put (i := 2 * i + 1) (u := v') h1'
    by_cases e : j = i
    · subst e; rw [at_eq]; exact hM
    · rw [at_ne _ _ e]; exact hM
  · by_cases e : j = i
    · subst e; rw [at_eq, at_eq]; exact hS.put h1' (by decide)
    · rw [at_ne _ _ e, at_ne _ _ e]
      exact ((h.F j hj).grown hG (fun k hk e2 => h.apF j i hj hi e k hk e2.symm)).put h1' (by decide)
  · by_cases e : j = i
    · subst e
      rw [at_eq] at hq
      rw [at_ne _ _ (fun e => hn e.symm)]
      exact fun e2 => hne k hk (fun e => hn e.symm) q e2 hq
    · rw [at_ne _ _ e] at hq
      by_cases e2 : k = i
      · subst e2
        rw [at_eq]
        exact hne j hj e q hq
      · rw [at_ne _ _ e2]
        exact h.apF j k hj hk hn q hq
  · have := hG.size; simpa [World.setCell] using this
  · exact (Below.heap_setCell w' _ _ k hp).trans (hG.block k hk (fun e => hf i hi e.symm))
  · by_cases e : j = i
    · subst e; rw [at_eq] at hk; exact hown k hk
    · rw [at_ne _ _ e] at hk; exact .inl hk
/-- A buffer is taken out of a group's map. -/
theorem Pb.delM (h : Pb b0 w pb mp fv s) {i : Nat} (hi : i < 16) {a : Int} (ha : (Lit.int .i64 a).wf = true) (ty : TypeId) :
    ∃ w', (Builtin.delete_ #[116, 3] ty #[.map (some (mp i)), .int .i64 a]).run Try.prog w = .ok (.tuple #[]) w' ∧ Pb b0 w' pb mp fv (at_ s i { s i with m := fun x => if x = a then none else (s i).m x, n := if ((s i).m a).isSome then (s i).n - 1 else (s i).n }) ∧ w.grownBy w' (some (mp i)) := by
  obtain ⟨cells, h1, h2, h3⟩ := h.blk
  obtain ⟨w', hr, hM, hG⟩ := (h.M i hi).delete (ty := ty) Try.underlying116 (a := a) ha
  have hne := (h.M i hi).apart h1
  refine ⟨w', hr, ⟨⟨cells, blk_grown h1 hG (fun e => hne (Option.some.inj e).symm), h2, h3⟩, h.lo, fun j hj => ?_, fun j hj => ?_, h.apM, h.apF⟩, hG⟩
  · by_cases e : j = i
    · subst e; rw [at_eq]; exact hM
    · rw [at_ne _ _ e]; exact (h.M j hj).grown hG (fun e2 => h.apM j i hj hi e (Option.some.inj e2))
  · have hF : Sl b0 w' (fv j) (s j).fr := (h.F j hj).grown hG (fun k hk e2 => by
      obtain ⟨cur, hc⟩ := Sl.own_cells (h.F j hj) hk
      exact (h.M i hi).apart hc (Option.some.inj e2).symm)
    by_cases e : j = i
    · subst e; rw [at_eq]; exact hF
    · rw [at_ne _ _ e]; exact hF
theorem Pv.refl (w : World) (pb : Nat) (mp : Nat → Nat) (fv : Nat → Value) : Pv w w pb mp fv fv := Pv.of_below (Below.refl _ _)
end
end Go.Proofs.Ytfmfpofbefgbgaa.HPool
