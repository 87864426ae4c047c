/- pool: Free and Remove of a group. Conditions: each theorem's own. -/
import Derived.Test.YtfmfpofbefgbgaaHPool10
import Derived.Test.YtfmfpofbefgbgaaHCloneI
import Derived.Lib.MinMax
namespace Go.Proofs.Ytfmfpofbefgbgaa.HPool
open Go.RowKit Go.Proofs.YtfmfpofbefgbgaaW.PrintWords Go.Proofs.YtfmfpofbefgbgaaW.PrintLast Go.Proofs.YtfmfpofbefgbgaaW.PrintMore Go.Proofs.Ytfmfpofbefgbgaa.HMap Go.Proofs.Ytfmfpofbefgbgaa.HSl Go.Maps Go.ChangeMaps Go.MapKept Go.Proofs.Ytfmfpofbefgbgaa.HReg Go.Lib
set_option linter.unusedVariables false
set_option linter.unusedSimpArgs false
set_option linter.unusedSectionVars false
theorem clone_calls (A : Option Addr) (c n : Nat) (xs : List Int) (w : World) (hn : xs.length = n) (hr : Kd.C (Kd.int .i64) w A n xs) (hc : n ≤ c) (hl : n ≤ 100000) : Calls Try.prog 66 #[.slice A n c] w fun e w' => ∃ v', e = .returned v' ∧ Sl w.heap.size w' v' xs ∧ Below w.heap.size w w' := by
  subst hn
  refine (HCloneI.calls A c xs w hr hc (by omega)).mono ?_
  rintro e w' ⟨v', rfl, hR, hB⟩
  exact ⟨v', rfl, Sl.of_R hR (Nat.le_refl _), hB⟩
set_option maxRecDepth 100000 in
set_option maxHeartbeats 16000000 in
theorem free_in {b0 pb : Nat} {w : World} {mp : Nat → Nat} {fv : Nat → Value} {s : Nat → Gp} (h : Pb b0 w pb mp fv s) (i : Nat) (hi : i < 16) (hl : (s i).fr.length ≤ 100000) :
    Calls Try.prog 57 #[.pointer (some ⟨pb, 0, none⟩), .int .i64 i] w fun e w' => ∃ v, e = .returned v ∧ Sl w.heap.size w' v (s i).fr ∧ Below w.heap.size w w' := by
  have HC := Aside0.mk (of_in h i hi)
  have hF := h.F i hi
  obtain ⟨A, c, hv, hle, -⟩ := hF.shape
  rw [hv] at hF
  have HCL := Aside0.mk (clone_calls A c _ _ w rfl hF.reads hle hl)
  have hz := (h.cell hi).2.1
  rw [hv] at hz
  have hpb := blk_lt h.blk.choose_spec.1
  clear h hi hv hF hl hle
  go_enter Try.func57, Try.ntmps57
  go_wp2_with (first | (go_at_call 65; refine HC.out.mono ?_; rintro e w1 ⟨rfl, rfl⟩) | (go_at_call 66; refine HCL.out.mono ?_; rintro e w2 ⟨v, rfl, hS, hB⟩; obtain ⟨A3, c3, rfl, -, -⟩ := hS.shape; have HS := Aside0.mk hS; have HB := Aside0.mk hB; clear hS hB))
  go_ret
  exact ⟨_, rfl, HS.out, HB.out⟩
theorem remove_arg {b0 pb : Nat} {w : World} {mp : Nat → Nat} {fv : Nat → Value} {s : Nat → Gp} (h : Pb b0 w pb mp fv s) (i : Nat) (hi : i < 16) (n : Int) (hn : n < 0) :
    Calls Try.prog 34 #[.pointer (some ⟨pb, 0, none⟩), .int .i64 i, .int .i64 n] w fun e w' => e = .returned (.tuple #[.int .i64 0, .int .i64 1]) ∧ w = w' := by
  have HC := Aside0.mk (of_in h i hi)
  have e1 : decide (n < 0) = true := decide_eq_true hn
  clear h hi hn
  go_enter Try.func34, Try.ntmps34
  go_wp2_with (go_at_call 65; refine HC.out.mono ?_; rintro e w1 ⟨rfl, rfl⟩)
  go_ret2
  exact ⟨rfl, rfl⟩
/-- A group without its first q free buffers in its map. -/
def remk (g : Gp) (q : Nat) : Gp := ⟨fun y => if y ∈ g.fr.take q then none else g.m y, g.n - q, g.fr⟩
def remF (g : Gp) (q : Nat) : Gp := ⟨fun y => if y ∈ g.fr.take q then none else g.m y, g.n - q, g.fr.drop q⟩
theorem remk_zero (g : Gp) : remk g 0 = g := by
  unfold remk
  simp
theorem not_take {xs : List Int} (hnd : xs.Nodup) {q : Nat} (hq : q < xs.length) : xs.getD q 0 ∉ xs.take q := by
  have e : xs.getD q 0 = xs[q] := by rw [List.getD_eq_getElem?_getD, List.getElem?_eq_getElem hq]; rfl
  rw [e]
  intro hm
  obtain ⟨j, hj, he⟩ := List.getElem_of_mem hm
  rw [List.length_take] at hj
  rw [List.getElem_take] at he
  have := (List.getElem_inj (xs := xs) hnd).1 he
  omega
theorem remk_succ (g : Gp) (hnd : g.fr.Nodup) (q : Nat) (hq : q < g.fr.length) (hs : (g.m (g.fr.getD q 0)).isSome = true) :
    (⟨fun x => if x = g.fr.getD q 0 then none else (remk g q).m x, if ((remk g q).m (g.fr.getD q 0)).isSome then (remk g q).n - 1 else (remk g q).n, (remk g q).fr⟩ : Gp) = remk g (q + 1) := by
  have e : g.fr.getD q 0 = g.fr[q] := by rw [List.getD_eq_getElem?_getD, List.getElem?_eq_getElem hq]; rfl
  have hm : (remk g q).m (g.fr.getD q 0) = g.m (g.fr.getD q 0) := if_neg (not_take hnd hq)
  rw [hm, if_pos hs]
  have h1 : (fun x => if x = g.fr.getD q 0 then none else (remk g q).m x) = (remk g (q + 1)).m := by
    funext x
    show (if x = _ then none else if x ∈ g.fr.take q then none else g.m x) = if x ∈ g.fr.take (q + 1) then none else g.m x
    rw [List.take_succ_eq_append_getElem hq, ← e]
    by_cases h1 : x = g.fr.getD q 0
    · rw [if_pos h1, if_pos (by rw [h1]; simp)]
    · rw [if_neg h1]
      by_cases h2 : x ∈ g.fr.take q
      · rw [if_pos h2, if_pos (List.mem_append_left _ h2)]
      · rw [if_neg h2, if_neg (by simp only [List.mem_append, List.mem_singleton]; exact fun h => h.elim h2 h1)]
  simp only [h1]
  show (⟨_, g.n - q - 1, g.fr⟩ : Gp) = ⟨_, g.n - (q + 1), g.fr⟩
  rw [Nat.sub_sub]
  rfl
set_option maxRecDepth 100000 in
set_option maxHeartbeats 16000000 in
theorem remove_in {bs pb : Nat} {w : World} {mp : Nat → Nat} {fv : Nat → Value} {s : Nat → Gp} (h : Pb bs w pb mp fv s) (hb0 : bs ≤ w.heap.size) (i : Nat) (hi : i < 16) (hnd : (s i).fr.Nodup) (hsm : ∀ x ∈ (s i).fr, ((s i).m x).isSome = true ∧ (Lit.int .i64 x).wf = true) (hl : (s i).fr.length ≤ 100000) (n : Int) (hn : 0 ≤ n) (M : Nat) (hM : (M : Int) = if n < (s i).fr.length then n else (s i).fr.length) :
    Calls Try.prog 34 #[.pointer (some ⟨pb, 0, none⟩), .int .i64 i, .int .i64 n] w fun e w' => e = .returned (.tuple #[.int .i64 M, .int .i64 0]) ∧ ∃ fv', Pb bs w' pb mp fv' (at_ s i (remF (s i) M)) ∧ Pv w w' pb mp fv fv' := by
  have HC := Aside0.mk (of_in h i hi)
  have e1 : decide (n < 0) = false := decide_eq_false (by omega)
  have hML : M ≤ (s i).fr.length := by split at hM <;> omega
  have hF := h.F i hi
  obtain ⟨A, c, hv, hle, -⟩ := hF.shape
  rw [hv] at hF
  have hz := (h.cell hi).2.1
  rw [hv] at hz
  obtain ⟨ii, hii, hz0, hz1, hz2⟩ := info_parts info3
  have c1 := cut_to (P := Try.prog) 102 3 .i64 Try.underlying102 hii A (s i).fr.length c (M : Int) (by omega) (by omega) hle
  rw [Int.toNat_natCast] at c1
  have hpb := blk_lt h.blk.choose_spec.1
  have hmn : ∀ W : World, (Builtin.min_ #[3, 3] 3 #[.int .i64 n, .int .i64 ((s i).fr.length : Int)]).run Try.prog W = .ok (.int .i64 (M : Int)) W := by
    intro W
    rw [run_min_int2]
    congr 2
    split at hM <;> (repeat' split) <;> omega
  have HP := Aside0.mk h
  have HV := Aside0.mk hv
  have HI := Aside0.mk (And.intro hi (And.intro hb0 (And.intro hnd (And.intro hsm (And.intro hl hML)))))
  generalize hLL : (s i).fr.length = L at hz c1 hmn
  have HLL := Aside0.mk hLL
  clear h hi hb0 hnd hsm hl hn hM hML hF hv hLL hle
  go_enter Try.func34, Try.ntmps34
  go_upto_region 7 with (go_at_call 65; refine HC.out.mono ?_; rintro e w1 ⟨rfl, rfl⟩)
  go_wp2
  clear e1 c1 hmn hz HC
  have HH : Aside0 (0 ≤ M ∧ Pb bs w pb mp fv (at_ s i (remk (s i) 0)) ∧ Pv w w pb mp fv fv) := ⟨Nat.zero_le _, by
    rw [remk_zero]
    have : at_ s i (s i) = s := by funext j; by_cases e : j = i; (subst e; exact at_eq _ _ _); exact at_ne _ _ e
    rw [this]; exact HP.out, Pv.refl _ _ _ _⟩
  clear HP
  go_loopw [39] (fun o wr => ∃ k : Nat, o = .int .i64 k ∧ Aside0 (k ≤ M ∧ Pb bs wr pb mp fv (at_ s i (remk (s i) k)) ∧ Pv w wr pb mp fv fv)) (fun o _ => M - num o)
  case atStart => exact ⟨0, rfl, HH⟩
  case round =>
    clear HH
    obtain ⟨k, rfl, ⟨hk, hP, hV⟩⟩ := hrel
    have hI := HI.out
    have hF := hP.F i hI.1
    rw [HV.out, at_eq] at hF
    have hFr : Kd.C (Kd.int .i64) wr A (s i).fr.length (s i).fr := hF.reads
    have hc := (hP.cell hI.1).1
    have hpr := blk_lt hP.blk.choose_spec.1
    by_cases hlt : k < M
    · have b0 : decide ((k : Int) < (M : Int)) = true := decide_eq_true (by omega)
      have b1 : decide (k < M) = true := decide_eq_true hlt
      have b2 : ((k : Int) < (M : Int)) = True := eq_true (by omega)
      have b3 : (k < M) = True := eq_true hlt
      have w1 : IntKind.i64.wrap ((k : Int) + 1) = (k : Int) + 1 := wid _ (by omega) (by omega)
      have hkl : k < (s i).fr.length := by omega
      obtain ⟨ad, rfl, hrd⟩ := (Kd.reads_of_C (enc := Value.int .i64) (d := (0 : Int)) (h1 := fun _ => rfl) hFr).2.2 (by omega)
      have hx := hrd k hkl
      have hmem : (s i).fr.getD k 0 ∈ (s i).fr := by
        rw [List.getD_eq_getElem?_getD, List.getElem?_eq_getElem hkl]
        exact List.getElem_mem hkl
      have hsm := hI.2.2.2.1 _ hmem
      obtain ⟨w5, hup, hT5, hG5⟩ := hP.delM hI.1 (a := (s i).fr.getD k 0) hsm.2 0
      simp only [at_at, at_eq] at hT5
      rw [remk_succ (s i) hI.2.2.1 k hkl hsm.1] at hT5
      have HT := Aside0.mk hT5
      have HV5 := Aside0.mk (hV.trans (Pv.grown_map hG5 hI.1))
      have HK := Aside0.mk hlt
      generalize (s i).fr.getD k 0 = x at hx hup
      clear hk hP hV hI hF hFr hlt hkl hrd hmem hsm hT5 hG5
      go_wp2
      go_roundw
      case rel => exact ⟨k + 1, by go_num, ⟨HK.out, HT.out, HV5.out⟩⟩
      case measure => simp only [num]; have := HK.out; omega
    · have b0 : decide ((k : Int) < (M : Int)) = false := decide_eq_false (by omega)
      have b1 : decide (k < M) = false := decide_eq_false hlt
      obtain rfl : k = M := by omega
      have hz := (hP.cell hI.1).2.1
      have hf := (hP.cell hI.1).2.2
      rw [HV.out, HLL.out] at hz
      obtain ⟨A9, c3, hv3, hle, -⟩ := hF.shape
      injection hv3 with q1 q2 q3
      rw [← q3] at hle
      clear q1 q2 q3 A9 c3
      replace hle : (s i).fr.length ≤ c := hle
      have c1 := cut_from (P := Try.prog) 102 3 .i64 Try.underlying102 hii 1 hz1 A L c (k : Int) (by omega) (by have := HLL.out; omega)
      rw [Int.toNat_natCast] at c1
      have hC := Kd.C_drop (k := Kd.int .i64) hFr (m := k) (by omega) hle
      have hC' : Kd.C (Kd.int .i64) wr (if c = k then A else A.map (·.add (k * 1))) (L - k) ((s i).fr.drop k) := by
        rw [List.length_drop, HLL.out] at hC
        exact hC
      have HCL := clone_calls _ (c - k) (L - k) _ wr (by rw [List.length_drop, HLL.out]) hC' (by have := HLL.out; omega) (by have := HLL.out; omega)
      generalize (if c = k then A else A.map (·.add (k * 1))) = A2 at c1 HCL
      have HCL := Aside0.mk HCL
      have HP := Aside0.mk hP
      have HV3 := Aside0.mk hV
      clear hk hP hV hI hF hFr hlt hC hC' hle hii
      go_wp2_with (go_at_call 66; refine HCL.out.mono ?_; rintro e w6 ⟨v, rfl, hS, hB⟩; obtain ⟨A3, c4, rfl, -, -⟩ := hS.shape; have hG1 : wr.grownBy w6 (fv i).ownBlock := grown_below hB; have T6 := Aside0.mk (HP.out.turnF HI.out.1 hG1 (hS.mono (Nat.le_trans HI.out.2.1 HV3.out.size)) (fun k hk => .inr (Sl.low hS k hk).1)); obtain ⟨-, k1, k2⟩ := HP.out.cellG HI.out.1 hG1; have k3 := Nat.lt_of_lt_of_le hpr hG1.size; generalize (List.drop k (s i).fr).length = n3 at hS T6 ⊢; clear hS hB hz hf hG1 hpr HCL)
      go_ret2
      refine ⟨rfl, _, ?_, HV3.out.trans T6.out.2⟩
      have h6 := T6.out.1
      simp only [at_at, at_eq] at h6
      exact h6
end Go.Proofs.Ytfmfpofbefgbgaa.HPool
