/- The builtin copy over rows of bytes: the destination a part of a row of one's own, the source whatever is read; as many go over as the shorter has. Conditions: each theorem's own. -/
import Derived.Test.YtfmfpofbefgbgaaHExt
namespace Go.Proofs.Ytfmfpofbefgbgaa.HCopy
open Go.RowKit Go.Proofs.YtfmfpofbefgbgaaW.PrintWords Go.Proofs.YtfmfpofbefgbgaaW.PrintLast Go.Proofs.YtfmfpofbefgbgaaW.PrintMore Go.Proofs.Ytfmfpofbefgbgaa.HExt
set_option linter.unusedVariables false
set_option linter.unusedSimpArgs false
theorem over_nil (lo : Nat) (xs : List Int) : over lo xs [] = xs := by simp [over]
theorem copy_core {P : Program} (W : World) (dT sT ty e : TypeId) (hu : P.underlying dT = some (.slice e)) (hsz : (P.info? e).map (·.size) = some 1)
    (lo g n c dL dC sC m : Nat) (xs ts : List Int) (base : Nat) (ok : Nat → Prop) (A dp : Option Addr) (hdp : 0 < dL → dp = some ⟨g, lo, none⟩) (hfit : lo + dL ≤ n)
    (HO : Kd.R (Kd.int .u8) e W base ok (.slice (some ⟨g, 0, none⟩) n c) xs) (HS : Kd.C (Kd.int .u8) W A m ts) :
    ∃ w', (Builtin.copy_ #[dT, sT] ty #[.slice dp dL dC, .slice A m sC]).run P W = .ok (goInt (Nat.min m dL)) w' ∧ Kd.R (Kd.int .u8) e w' base ok (.slice (some ⟨g, 0, none⟩) n c) (over lo xs (ts.take (Nat.min m dL))) ∧ W.grownBy w' (some g) := by
  have hm : m = ts.length := (HS.1).symm
  subst hm
  by_cases h0 : Nat.min ts.length dL = 0
  · exact ⟨W, by rw [h0]; exact run_copy_none W dT sT ty e dp A dL dC ts.length sC hu hsz h0, by rw [h0, List.take_zero, over_nil]; exact HO, ⟨rfl, rfl, rfl, Nat.le_refl _, fun _ _ _ => rfl⟩⟩
  obtain ⟨k, hk⟩ : ∃ k, k = Nat.min ts.length dL := ⟨_, rfl⟩
  have hkt : k ≤ ts.length := by rw [hk]; exact Nat.min_le_left _ _
  have hkd : k ≤ dL := by rw [hk]; exact Nat.min_le_right _ _
  rw [← hk] at h0 ⊢
  obtain rfl := hdp (by omega)
  have hok := HO.1
  have hxn : n = xs.length := (Kd.R_reads' HO).1
  have hown := Kd.own_of_R (enc := Value.int .u8) (h1 := fun _ => rfl) HO
  rcases hown.2 with ⟨hv, _⟩ | ⟨g', cap', cur, hv, hb, hh, hnc, hcm, hcs, htake⟩
  · cases hv
  injection hv with ha _ hc
  injection ha with ha
  injection ha with hg
  subst hg; subst hc
  rw [Nat.mul_one] at hcs htake
  have hcur : cur.toList.length = c := by rw [Array.length_toList]; exact hcs
  have htk : (ts.take k).length = k := by rw [List.length_take]; omega
  have hcl : (encs (Value.int .u8) (ts.take k)).length = k := by simp [encs]; omega
  have HS' := Kd.reads_of_C (enc := Value.int .u8) (d := (0 : Int)) (h1 := fun _ => rfl) HS
  obtain ⟨ad, rfl, hcell⟩ := HS'.2.2 (by omega)
  have hsrc : ∀ j v, (encs (Value.int .u8) (ts.take k))[j]? = some v → W.cell? (ad.add j) = some v := by
    intro j v hj
    have hjl : j < k := by
      have := (List.getElem?_eq_some_iff.1 hj).1
      omega
    rw [encs_get (d := 0) _ j (by omega)] at hj
    rw [hcell j (by omega), ← hj]
    simp [List.getD_eq_getElem?_getD, List.getElem?_take, hjl]
  have hrun := run_copy_row (P := P) W dT sT ty e g lo dL dC ad ts.length sC cur e (encs (Value.int .u8) (ts.take k)) hu hsz hh (by rw [hcl]; exact hk) hsrc (by rw [hcl, hcs]; omega)
    (fun v hv => by obtain ⟨x, _, rfl⟩ := List.mem_map.1 hv; rfl)
  rw [hcl] at hrun
  have hlen2 : (over lo xs (ts.take k)).length = n := by simp [over]; omega
  refine ⟨_, hrun, ?_, ?_⟩
  · refine Kd.R_of_own ⟨?_, .inr ⟨g, c, _, ?_, hb, setRow_heap W g _ _ e _ hh, ?_, hcm, ?_, ?_⟩⟩ hok
    · simp only [encs, List.length_map, Nat.mul_one]
    · rw [hlen2]
    · rw [hlen2]; omega
    · have := length_splice cur.toList lo (encs (Value.int .u8) (ts.take k)) (by rw [hcl, hcur]; omega)
      unfold splice at this
      rw [hcl] at this
      simpa [hcur] using this
    · rw [hlen2, Nat.mul_one]
      have := copy_list xs (ts.take k) cur.toList lo n hxn.symm (by omega) (by rw [hxn]; exact htake) (by omega)
      unfold splice at this
      rw [hcl] at this
      simpa [over] using this
  · exact ⟨rfl, rfl, rfl, by simp [World.setRow], fun k hk hne => setRow_other W g k _ (fun e => hne (by rw [e]))⟩
/-- 'copy(d, s)' in a walk. -/
theorem R_copy_list {P : Program} {W : World} {ops : Array Oper} {rest : List Oper} {o : Oper} {a : Act} {Q : Exit → Act → World → Prop} (hgd : o.guard = none) (d s : Operand) (dT sT e : TypeId)
    (ho : o.op = .call { callee := .builtin .copy, args := #[d, s], argTypes := #[dT, sT] }) (hu : P.underlying dT = some (.slice e)) (hsz : (P.info? e).map (·.size) = some 1)
    (lo g n c dL dC sC m r : Nat) (hr : Nat.min m dL = r) (xs ts : List Int) (base : Nat) (ok : Nat → Prop) (A dp : Option Addr) (hd : a.eval d = .slice dp dL dC) (hs : a.eval s = .slice A m sC) (hdp : 0 < dL → dp = some ⟨g, lo, none⟩) (hfit : lo + dL ≤ n)
    (HO : Kd.R (Kd.int .u8) e W base ok (.slice (some ⟨g, 0, none⟩) n c) xs) (HS : Kd.C (Kd.int .u8) W A m ts)
    (h : ∀ w', Kd.R (Kd.int .u8) e w' base ok (.slice (some ⟨g, 0, none⟩) n c) (over lo xs (ts.take r)) → W.grownBy w' (some g) → wpList P ops Q rest (a.put o.dst (goInt r)) w') :
    wpList P ops Q (o :: rest) a W := by
  subst hr
  refine wpList_plain hgd fun K hK => ?_
  obtain ⟨w', hrun, h1, h2⟩ := copy_core (P := P) W dT sT o.type e hu hsz lo g n c dL dC sC m xs ts base ok A dp hdp hfit HO HS
  unfold Oper.wp
  simp [execOp, ho, resolve, invoke, builtin, hd, hs, hrun, Result.andThen]
  exact hK _ _ (h w' h1 h2)
/-- 'copy(d, s)' as a step of a region that draws its order. -/
theorem R_copy_min {P : Program} {ops : Array Oper} {o : Oper} {a : Act} {W : World} {K : Act → World → Prop} {Q : Exit → Act → World → Prop} {E : Prop} (hgd : o.guard = none) (d s : Operand) (dT sT e : TypeId)
    (ho : o.op = .call { callee := .builtin .copy, args := #[d, s], argTypes := #[dT, sT] }) (hu : P.underlying dT = some (.slice e)) (hsz : (P.info? e).map (·.size) = some 1)
    (lo g n c dL dC sC m r : Nat) (hr : Nat.min m dL = r) (xs ts : List Int) (base : Nat) (ok : Nat → Prop) (A dp : Option Addr) (hd : a.eval d = .slice dp dL dC) (hs : a.eval s = .slice A m sC) (hdp : 0 < dL → dp = some ⟨g, lo, none⟩) (hfit : lo + dL ≤ n)
    (HO : Kd.R (Kd.int .u8) e W base ok (.slice (some ⟨g, 0, none⟩) n c) xs) (HS : Kd.C (Kd.int .u8) W A m ts)
    (h : ∀ w', Kd.R (Kd.int .u8) e w' base ok (.slice (some ⟨g, 0, none⟩) n c) (over lo xs (ts.take r)) → W.grownBy w' (some g) → K (a.put o.dst (goInt r)) w') :
    if Region.wanted o (yielded ops a.tmps) = true then Oper.wp P o a W K Q else E := by
  subst hr
  have hw : Region.wanted o (yielded ops a.tmps) = true := by simp [Region.wanted, hgd]
  rw [if_pos hw]
  obtain ⟨w', hrun, h1, h2⟩ := copy_core (P := P) W dT sT o.type e hu hsz lo g n c dL dC sC m xs ts base ok A dp hdp hfit HO HS
  unfold Oper.wp
  simp [execOp, ho, resolve, invoke, builtin, hd, hs, hrun, Result.andThen]
  exact h w' h1 h2
end Go.Proofs.Ytfmfpofbefgbgaa.HCopy
