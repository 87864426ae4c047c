/- pool: what stays where a pool turns. Conditions: each theorem's own. -/
import Derived.Test.YtfmfpofbefgbgaaHPool5
namespace Go.Proofs.Ytfmfpofbefgbgaa.HPool
open Go.RowKit Go.Proofs.YtfmfpofbefgbgaaW.PrintWords Go.Proofs.YtfmfpofbefgbgaaW.PrintLast Go.Proofs.YtfmfpofbefgbgaaW.PrintMore Go.Proofs.Ytfmfpofbefgbgaa.HMap Go.Proofs.Ytfmfpofbefgbgaa.HSl Go.Maps Go.ChangeMaps Go.MapKept
set_option linter.unusedVariables false
set_option linter.unusedSimpArgs false
set_option linter.unusedSectionVars false
/-- From w to w' only the pool's blocks turned; a group's row lies where it lay, or in a new block. -/
structure Pv (w w' : World) (pb : Nat) (mp : Nat → Nat) (fv fv' : Nat → Value) : Prop where
  os : w'.os = w.os
  tape : w'.tape = w.tape
  output : w'.output = w.output
  size : w.heap.size ≤ w'.heap.size
  old : ∀ k, k < w.heap.size → k ≠ pb → (∀ i, i < 16 → k ≠ mp i) → (∀ i, i < 16 → (fv i).ownBlock ≠ some k) → w'.heap[k]? = w.heap[k]?
  own : ∀ i, i < 16 → ∀ k, (fv' i).ownBlock = some k → (fv i).ownBlock = some k ∨ w.heap.size ≤ k
section
variable {b0 pb : Nat} {w0 w w' w2 : World} {mp : Nat → Nat} {fv fv' fv2 : Nat → Value} {s : Nat → Gp}
theorem Sl.own_lo {v : Value} {xs : List Int} {k : Nat} (h : Sl b0 w v xs) (hk : v.ownBlock = some k) : b0 ≤ k := by
  obtain ⟨e, e2⟩ | ⟨g, o, cap, cur, e, hg, hh, hn, hm, hs, hj⟩ := h
  · subst e; simp [Value.ownBlock] at hk
  · subst e
    simp [Value.ownBlock] at hk
    omega
theorem Pv.of_below (h : Below w.heap.size w w') : Pv w w' pb mp fv fv := ⟨h.os, h.tape, h.output, h.size, fun k hk _ _ _ => h.block k hk, fun _ _ _ e => .inl e⟩
theorem Pv.trans (h : Pv w w' pb mp fv fv') (h2 : Pv w' w2 pb mp fv' fv2) : Pv w w2 pb mp fv fv2 :=
  ⟨h2.os.trans h.os, h2.tape.trans h.tape, h2.output.trans h.output, Nat.le_trans h.size h2.size,
    fun k hk hp hm hf => (h2.old k (Nat.lt_of_lt_of_le hk h.size) hp hm (fun i hi e => (h.own i hi k e).elim (hf i hi) (fun e1 => Nat.not_lt.2 e1 hk))).trans (h.old k hk hp hm hf),
    fun i hi k e => (h2.own i hi k e).elim (h.own i hi k) (fun e1 => .inr (Nat.le_trans h.size e1))⟩
theorem Pv.below (h : Pv w w' pb mp fv fv') (hp : Pb b0 w pb mp fv s) (hB : Below b0 w0 w) (hle : b0 ≤ w.heap.size) : Below b0 w0 w' :=
  ⟨h.os.trans hB.os, h.tape.trans hB.tape, h.output.trans hB.output, Nat.le_trans hB.size h.size,
    fun k hk => (h.old k (Nat.lt_of_lt_of_le hk hle) (fun e => by have := hp.lo.1; omega) (fun i hi e => by have := hp.lo.2 i hi; omega) (fun i hi e => by have := Sl.own_lo (hp.F i hi) e; omega)).trans (hB.block k hk)⟩
theorem Pv.grown_map {i : Nat} (hG : w.grownBy w' (some (mp i))) (hi : i < 16) : Pv w w' pb mp fv fv :=
  ⟨hG.os, hG.tape, hG.output, hG.size, fun k hk _ hm _ => hG.block k hk (fun e => hm i hi (Option.some.inj e)), fun _ _ _ e => .inl e⟩
end
end Go.Proofs.Ytfmfpofbefgbgaa.HPool
