/- pool: a pool under a store of a group's row, an update of a group's map. Conditions: each theorem's own. -/
import Derived.Test.YtfmfpofbefgbgaaHPool2
namespace Go.Proofs.Ytfmfpofbefgbgaa.HPool
open Go.RowKit Go.Proofs.YtfmfpofbefgbgaaW.PrintWords Go.Proofs.YtfmfpofbefgbgaaW.PrintLast Go.Proofs.YtfmfpofbefgbgaaW.PrintMore Go.Proofs.Ytfmfpofbefgbgaa.HMap Go.Proofs.Ytfmfpofbefgbgaa.HSl Go.Maps Go.ChangeMaps Go.MapKept
set_option linter.unusedVariables false
set_option linter.unusedSimpArgs false
set_option linter.unusedSectionVars false
def at_ {α : Type} (f : Nat → α) (i : Nat) (x : α) : Nat → α := fun j => if j = i then x else f j
theorem at_eq {α : Type} (f : Nat → α) (i : Nat) (x : α) : at_ f i x i = x := if_pos rfl
theorem at_ne {α : Type} (f : Nat → α) {i j : Nat} (x : α) (h : j ≠ i) : at_ f i x j = f j := if_neg h
section
variable {b0 pb : Nat} {w w' : World} {mp : Nat → Nat} {fv : Nat → Value} {s : Nat → Gp}
theorem Sl.own_cells {v : Value} {xs : List Int} {k : Nat} (h : Sl b0 w v xs) (hk : v.ownBlock = some k) : ∃ cur, w.heap[k]? = some (.cells cur 3 (0, 0)) := by
  obtain ⟨e, e2⟩ | ⟨g, o, cap, cur, e, hg, hh, hn, hm, hs, hj⟩ := h
  · subst e; simp [Value.ownBlock] at hk
  · subst e
    simp [Value.ownBlock] at hk
    subst hk
    exact ⟨cur, hh⟩
theorem Pb.setF (h : Pb b0 w pb mp fv s) {i : Nat} (hi : i < 16) {v' : Value} {xs' : List Int} (hS : Sl b0 w v' xs') (hown : ∀ k, v'.ownBlock = some k → ∀ j, j < 16 → j ≠ i → (fv j).ownBlock ≠ some k) :
    Pb b0 (w.setCell ⟨pb, 2 * i + 1, none⟩ v') pb mp (at_ fv i v') (at_ s i { s i with fr := xs' }) := by
  obtain ⟨cells, h1, h2, h3⟩ := h.blk
  refine ⟨⟨cells.setIfInBounds (2 * i + 1) v', blk_set h1 _ _, by rw [Array.size_setIfInBounds, h2], fun j hj => ⟨?_, ?_⟩⟩, h.lo, fun j hj => ?_, fun j hj => ?_, h.apM, fun j k hj hk hn q hq => ?_⟩
  · rw [Array.getElem?_setIfInBounds, if_neg (by omega)]; exact (h3 j hj).1
  · rw [Array.getElem?_setIfInBounds]
    by_cases e : j = i
    · subst e; rw [if_pos rfl, if_pos (by omega), at_eq]
    · rw [if_neg (by omega), at_ne _ _ e]; exact (h3 j hj).2
  · by_cases e : j = i
    · subst e; rw [at_eq]; exact (h.M j hj).put h1
    · rw [at_ne _ _ e]; exact (h.M j hj).put h1
  · by_cases e : j = i
    · subst e; rw [at_eq, at_eq]; exact hS.put h1 (by decide)
    · rw [at_ne _ _ e, at_ne _ _ e]; exact (h.F j hj).put h1 (by decide)
  · by_cases e : j = i
    · subst e
      rw [at_eq] at hq
      rw [at_ne _ _ (fun e => hn e.symm)]
      exact hown q hq k hk (fun e => hn e.symm)
    · rw [at_ne _ _ e] at hq
      by_cases e2 : k = i
      · subst e2
        rw [at_eq]
        intro hq2
        exact hown q hq2 j hj e hq
      · rw [at_ne _ _ e2]
        exact h.apF j k hj hk hn q hq
theorem Pb.setM (h : Pb b0 w pb mp fv s) {i : Nat} (hi : i < 16) {a : Int} (ha : (Lit.int .i64 a).wf = true) (v : Bf) :
    ∃ w', (Instr.mapUpdate 116 (.map (some (mp i))) (.int .i64 a) (.agg #[.int .i64 v.1, .bool v.2])).run Try.prog w = .ok () w' ∧ Pb b0 w' pb mp fv (at_ s i { s i with m := fun x => if x = a then some v else (s i).m x, n := if ((s i).m a).isSome then (s i).n else (s i).n + 1 }) ∧ w.grownBy w' (some (mp i)) := by
  obtain ⟨cells, h1, h2, h3⟩ := h.blk
  obtain ⟨w', hr, hM, hG⟩ := (h.M i hi).update Try.underlying116 (a := a) ha v
  have hne := (h.M i hi).apart h1
  refine ⟨w', hr, ⟨⟨cells, blk_grown h1 hG (fun e => hne (Option.some.inj e).symm), h2, h3⟩, h.lo, fun j hj => ?_, fun j hj => ?_, h.apM, h.apF⟩, hG⟩
  · by_cases e : j = i
    · subst e; rw [at_eq]; exact hM
    · rw [at_ne _ _ e]; exact (h.M j hj).grown hG (fun e2 => h.apM j i hj hi e (Option.some.inj e2))
  · have hF : Sl b0 w' (fv j) (s j).fr := (h.F j hj).grown hG (fun k hk e2 => by
      obtain ⟨cur, hc⟩ := Sl.own_cells (h.F j hj) hk
      exact (h.M i hi).apart hc (Option.some.inj e2).symm)
    by_cases e : j = i
    · subst e; rw [at_eq]; exact hF
    · rw [at_ne _ _ e]; exact hF
theorem elim_vB (o : Option Bf) : o.elim (Value.agg #[.int .i64 0, .bool false]) vB = .agg #[.int .i64 (o.getD (0, false)).1, .bool (o.getD (0, false)).2] := by cases o <;> rfl
/-- A key of a group is looked up. -/
theorem Pb.look2 (h : Pb b0 w pb mp fv s) {i : Nat} (hi : i < 16) {a : Int} (ha : (Lit.int .i64 a).wf = true) : (Instr.lookup 116 (.map (some (mp i))) (.int .i64 a) true).run Try.prog w = .ok (.tuple #[.agg #[.int .i64 (((s i).m a).getD (0, false)).1, .bool (((s i).m a).getD (0, false)).2], .bool ((s i).m a).isSome]) w := by
  have := (h.M i hi).look true Try.underlying116 (zero126 w) (a := a) ha
  rw [elim_vB] at this
  exact this
theorem Pb.look1 (h : Pb b0 w pb mp fv s) {i : Nat} (hi : i < 16) {a : Int} (ha : (Lit.int .i64 a).wf = true) : (Instr.lookup 116 (.map (some (mp i))) (.int .i64 a) false).run Try.prog w = .ok (.agg #[.int .i64 (((s i).m a).getD (0, false)).1, .bool (((s i).m a).getD (0, false)).2]) w := by
  have := (h.M i hi).look false Try.underlying116 (zero126 w) (a := a) ha
  rw [elim_vB] at this
  exact this
theorem Pb.len (h : Pb b0 w pb mp fv s) {i : Nat} (hi : i < 16) (ty : TypeId) : (Builtin.len_ #[116] ty #[.map (some (mp i))]).run Try.prog w = .ok (.int .i64 (s i).n) w := (h.M i hi).len Try.underlying116
end
end Go.Proofs.Ytfmfpofbefgbgaa.HPool
