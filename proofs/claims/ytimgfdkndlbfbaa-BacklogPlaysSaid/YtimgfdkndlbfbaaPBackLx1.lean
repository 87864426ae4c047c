/- The laws of backlog: each function by one plain function of what the log holds; what every log keeps. Conditions: each theorem's own. -/
import Derived.Test.YtimgfdkndlbfbaaPBackLx0
namespace Go.Proofs.Ytimgfdkndlbfbaa.PBackL
open Go.RowKit Go.Proofs.YtimgfdkndlbfbaaW.PrintWords Go.Proofs.YtimgfdkndlbfbaaW.PrintLast Go.Proofs.YtimgfdkndlbfbaaW.PrintMore Go.Proofs.Ytimgfdkndlbfbaa.HBk
set_option linter.unusedVariables false
set_option linter.unusedSimpArgs false
def addF (s : LS) (x : Int) : LS × Int := if x ∈ s.h ∨ x ∈ s.r then (s, 140) else if s.m0 ≤ s.h.length ∨ s.m1 ≤ s.r.length then ({ s with rf := s.rf + 1 }, 5) else ({ s with h := s.h ++ [x], ad := s.ad + 1 }, 0)
def readyF (s : LS) (x : Int) : LS × Int := if x ∈ s.h then ({ s with h := out s.h x, r := s.r ++ [x] }, 0) else (s, 6)
def dropF (s : LS) (x : Int) : LS × Bool := ({ s with h := out s.h x, r := out s.r x }, decide (x ∈ s.h) || decide (x ∈ s.r))
def takeF (s : LS) : LS × Int × Bool := match s.r with
  | [] => (s, 0, false)
  | x :: xs => ({ s with r := xs, tk := s.tk + 1 }, x, true)
/-- What a log keeps behind k calls. -/
structure Jn (s : LS) (k : Nat) : Prop where
  nd : (s.h ++ s.r).Nodup
  ln : s.h.length + s.r.length ≤ k
  a0 : 0 ≤ s.ad
  a1 : s.ad ≤ k
  t0 : 0 ≤ s.tk
  t1 : s.tk ≤ k
  f0 : 0 ≤ s.rf
  f1 : s.rf ≤ k
theorem Jn.more {s : LS} {k : Nat} (h : Jn s k) : Jn s (k + 1) := ⟨h.nd, by have := h.ln; omega, h.a0, by have := h.a1; omega, h.t0, by have := h.t1; omega, h.f0, by have := h.f1; omega⟩
theorem out_sub (xs : List Int) (x : Int) : (out xs x).Sublist xs := by
  unfold out rem
  split
  · exact List.eraseIdx_sublist _ _
  · exact List.Sublist.refl _
theorem out_gone {xs : List Int} (h : xs.Nodup) (x : Int) : x ∉ out xs x := by
  unfold out rem
  by_cases hx : x ∈ xs
  · rw [if_pos hx]
    intro hm
    induction xs with
    | nil => cases hx
    | cons y ys ih =>
      rw [List.nodup_cons] at h
      by_cases e : y = x
      · subst e
        simp at hm
        exact h.1 hm
      · have hx' : x ∈ ys := by rcases List.mem_cons.1 hx with e' | e'; exact absurd e'.symm e; exact e'
        rw [List.idxOf_cons, beq_eq_false_iff_ne.2 e] at hm
        simp only [cond_false, List.eraseIdx_cons_succ, List.mem_cons] at hm
        rcases hm with hm | hm
        · exact e hm.symm
        · exact ih h.2 hx' hm
  · rw [if_neg hx]; exact hx
theorem out_filter {xs : List Int} (h : xs.Nodup) (x : Int) : out xs x = xs.filter (fun y => y ≠ x) := by
  unfold out rem
  induction xs with
  | nil => rfl
  | cons y ys ih =>
    rw [List.nodup_cons] at h
    have h2 := ih h.2
    by_cases e : y = x
    · subst e
      have hn : ys.filter (fun z => decide (z ≠ y)) = ys := List.filter_eq_self.2 (fun z hz => decide_eq_true (fun e => h.1 (e ▸ hz)))
      rw [List.filter_cons_of_neg (by simp), hn]
      simp
    · have hb : (y == x) = false := beq_eq_false_iff_ne.2 e
      rw [List.filter_cons_of_pos (by simp [e]), ← h2, List.idxOf_cons, hb]
      simp only [cond_false, List.eraseIdx_cons_succ, List.mem_cons]
      by_cases hx : x ∈ ys
      · rw [if_pos (.inr hx), if_pos hx]
      · rw [if_neg (by rintro (e' | e'); exact e e'.symm; exact hx e'), if_neg hx]
theorem Jn.add {s : LS} {k : Nat} (h : Jn s k) (x : Int) : Jn (addF s x).1 (k + 1) := by
  unfold addF
  split
  · exact h.more
  · rename_i hx
    split
    · exact ⟨h.nd, by have := h.ln; show s.h.length + s.r.length ≤ _; omega, h.a0, by have := h.a1; show s.ad ≤ _; omega, h.t0, by have := h.t1; show s.tk ≤ _; omega, by have := h.f0; show 0 ≤ s.rf + 1; omega, by have := h.f1; show s.rf + 1 ≤ _; omega⟩
    · refine ⟨?_, by have := h.ln; simp; omega, by have := h.a0; show 0 ≤ s.ad + 1; omega, by have := h.a1; show s.ad + 1 ≤ _; omega, h.t0, by have := h.t1; show s.tk ≤ _; omega, h.f0, by have := h.f1; show s.rf ≤ _; omega⟩
      show (s.h ++ [x] ++ s.r).Nodup
      have hp : (s.h ++ [x] ++ s.r).Perm (x :: (s.h ++ s.r)) := by rw [List.append_assoc]; exact List.perm_middle
      rw [hp.nodup_iff, List.nodup_cons]
      exact ⟨fun hm => hx (List.mem_append.1 hm), h.nd⟩
theorem Jn.ready {s : LS} {k : Nat} (h : Jn s k) (x : Int) : Jn (readyF s x).1 (k + 1) := by
  unfold readyF
  split
  · rename_i hx
    have hl := out_len s.h x
    refine ⟨?_, by have := h.ln; simp; omega, h.a0, by have := h.a1; show s.ad ≤ _; omega, h.t0, by have := h.t1; show s.tk ≤ _; omega, h.f0, by have := h.f1; show s.rf ≤ _; omega⟩
    show (out s.h x ++ (s.r ++ [x])).Nodup
    have hn := List.nodup_append.1 h.nd
    have hp : (out s.h x ++ (s.r ++ [x])).Perm (x :: (out s.h x ++ s.r)) := by rw [← List.append_assoc]; exact List.perm_append_singleton _ _
    rw [hp.nodup_iff, List.nodup_cons]
    refine ⟨fun hm => ?_, h.nd.sublist ((out_sub s.h x).append (List.Sublist.refl _))⟩
    rcases List.mem_append.1 hm with hm | hm
    · exact out_gone hn.1 x hm
    · exact hn.2.2 x hx x hm rfl
  · exact h.more
theorem Jn.drop {s : LS} {k : Nat} (h : Jn s k) (x : Int) : Jn (dropF s x).1 (k + 1) := by
  have h1 := out_len s.h x
  have h2 := out_len s.r x
  exact ⟨h.nd.sublist ((out_sub s.h x).append (out_sub s.r x)), by have := h.ln; show (out s.h x).length + (out s.r x).length ≤ _; omega, h.a0, by have := h.a1; show s.ad ≤ _; omega, h.t0, by have := h.t1; show s.tk ≤ _; omega, h.f0, by have := h.f1; show s.rf ≤ _; omega⟩
theorem Jn.take {s : LS} {k : Nat} (h : Jn s k) : Jn (takeF s).1 (k + 1) := by
  unfold takeF
  split
  · exact h.more
  · rename_i x xs e
    refine ⟨?_, by have := h.ln; rw [e] at this; simp at this; show s.h.length + xs.length ≤ _; omega, h.a0, by have := h.a1; show s.ad ≤ _; omega, by have := h.t0; show 0 ≤ s.tk + 1; omega, by have := h.t1; show s.tk + 1 ≤ _; omega, h.f0, by have := h.f1; show s.rf ≤ _; omega⟩
    have := h.nd
    rw [e] at this
    exact this.sublist ((List.Sublist.refl _).append (List.sublist_cons_self _ _))
section
variable {w0 w : World} {b k : Nat} {s : LS} {vh vr : Value}
theorem add_any (h : At w0 w b s vh vr) (hJ : Jn s k) (hk : k ≤ 300) (x : Int) : Calls Try.prog 31 #[.pointer (some ⟨b, 0, none⟩), .int .i64 x] w fun e w' => e = .returned (.int .i64 (addF s x).2) ∧ ∃ vh' vr', Lg w0.heap.size w' b (addF s x).1 vh' vr' ∧ Mv w w' b vh vr vh' vr' := by
  have h1 := hJ.ln; have h2 := hJ.a0; have h3 := hJ.a1; have h4 := hJ.f0; have h5 := hJ.f1
  unfold addF
  by_cases c : x ∈ s.h ∨ x ∈ s.r
  · rw [if_pos c]
    refine (add_same h.lg x c).mono ?_
    rintro e w' ⟨rfl, rfl⟩
    exact ⟨rfl, vh, vr, h.lg, Mv.refl _ _ _ _⟩
  · rw [if_neg c]
    have c1 : x ∉ s.h := fun e => c (.inl e)
    have c2 : x ∉ s.r := fun e => c (.inr e)
    by_cases d : s.m0 ≤ s.h.length ∨ s.m1 ≤ s.r.length
    · rw [if_pos d]
      refine (add_full h.lg x c1 c2 d (by omega) (by omega)).mono ?_
      rintro e w' ⟨rfl, hL, hM⟩
      exact ⟨rfl, vh, vr, hL, hM⟩
    · rw [if_neg d]
      refine (add_in h.lg h.size x c1 c2 (by omega) (by omega) (by omega) (by omega) (by omega)).mono ?_
      rintro e w' ⟨rfl, vh', hL, hM⟩
      exact ⟨rfl, vh', vr, hL, hM⟩
theorem ready_any (h : At w0 w b s vh vr) (hJ : Jn s k) (hk : k ≤ 300) (x : Int) : Calls Try.prog 33 #[.pointer (some ⟨b, 0, none⟩), .int .i64 x] w fun e w' => e = .returned (.int .i64 (readyF s x).2) ∧ ∃ vh' vr', Lg w0.heap.size w' b (readyF s x).1 vh' vr' ∧ Mv w w' b vh vr vh' vr' := by
  have h1 := hJ.ln
  unfold readyF
  by_cases c : x ∈ s.h
  · rw [if_pos c]
    exact ready_some h.lg h.size x c (by omega) (by omega)
  · rw [if_neg c]
    refine (ready_none h.lg x c).mono ?_
    rintro e w' ⟨rfl, rfl⟩
    exact ⟨rfl, vh, vr, h.lg, Mv.refl _ _ _ _⟩
theorem drop_any (h : At w0 w b s vh vr) (hJ : Jn s k) (hk : k ≤ 300) (x : Int) : Calls Try.prog 35 #[.pointer (some ⟨b, 0, none⟩), .int .i64 x] w fun e w' => e = .returned (.bool (dropF s x).2) ∧ ∃ vh' vr', Lg w0.heap.size w' b (dropF s x).1 vh' vr' ∧ Mv w w' b vh vr vh' vr' := by
  have h1 := hJ.ln
  exact drop_calls h.lg h.size x (by omega) (by omega)
theorem take_any (h : At w0 w b s vh vr) (hJ : Jn s k) (hk : k ≤ 300) : Calls Try.prog 37 #[.pointer (some ⟨b, 0, none⟩)] w fun e w' => e = .returned (.tuple #[.int .i64 (takeF s).2.1, .bool (takeF s).2.2]) ∧ ∃ vh' vr', Lg w0.heap.size w' b (takeF s).1 vh' vr' ∧ Mv w w' b vh vr vh' vr' := by
  have h1 := hJ.t0; have h2 := hJ.t1
  unfold takeF
  split
  · rename_i e0
    refine (take_none h.lg e0).mono ?_
    rintro e w' ⟨rfl, rfl⟩
    exact ⟨rfl, vh, vr, h.lg, Mv.refl _ _ _ _⟩
  · rename_i x xs e0
    refine (take_some h.lg x xs e0 (by omega) (by omega)).mono ?_
    rintro e w' ⟨rfl, vr', hL, hM⟩
    exact ⟨rfl, vh, vr', hL, hM⟩
end
end Go.Proofs.Ytimgfdkndlbfbaa.PBackL
