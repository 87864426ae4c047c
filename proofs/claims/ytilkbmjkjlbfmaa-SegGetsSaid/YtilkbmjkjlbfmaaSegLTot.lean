/- Plain law of layer 2: the pairs' plain sum, over lists put together, turned round, and changed at a pair. Conditions: each lemma's own. -/

import Derived.Test.YtilkbmjkjlbfmaaSegLSum
namespace Go.Proofs.Ytilkbmjkjlbfmaa.PSeg
set_option linter.unusedVariables false
set_option linter.unusedSimpArgs false
open Go.RowKit Go.Proofs.YtilkbmjkjlbfmaaW.PrintWords Go.Proofs.YtilkbmjkjlbfmaaW.PrintLast Go.Proofs.YtilkbmjkjlbfmaaW.PrintMore Go.Proofs.Ytilkbmjkjlbfmaa.Ar Go.Proofs.Ytilkbmjkjlbfmaa.HSum

def tt : List Int → Int
  | a :: b :: t => a * 256 + b + tt t
  | [a] => a * 256
  | [] => 0

theorem rd_two (a b : Int) (t : List Int) (j : Nat) : rd (a :: b :: t) ((j + 2 : Nat) : Int) = rd t j := by
  unfold rd
  simp only [Int.toNat_natCast]
  rfl
theorem pair_two (a b : Int) (t : List Int) (j : Nat) : pair (a :: b :: t) (j + 2) = pair t j := by
  unfold pair
  rw [rd_two, show j + 2 + 1 = (j + 1) + 2 from rfl, rd_two]
  simp only [List.length_cons]
  congr 1
  by_cases h : j + 1 < t.length
  · rw [if_pos h, if_pos (by omega)]
  · rw [if_neg h, if_neg (by omega)]
theorem bytesB_cons {a : Int} {t : List Int} (h : bytesB (a :: t) = true) : (0 ≤ a ∧ a ≤ 255) ∧ bytesB t = true :=
  ⟨bytesB_mem h List.mem_cons_self, bytesB_of fun _ hx => bytesB_mem h (List.mem_cons_of_mem _ hx)⟩
theorem bytesB_append {a b : List Int} (ha : bytesB a = true) (hb : bytesB b = true) : bytesB (a ++ b) = true :=
  bytesB_of fun x hx => (List.mem_append.1 hx).elim (fun h => bytesB_mem ha h) (fun h => bytesB_mem hb h)

theorem all_tt : ∀ l : List Int, bytesB l = true → (HSum.all l).sum = tt l
  | [], _ => rfl
  | [a], h => by
    unfold HSum.all pre
    simp only [List.length_cons, List.length_nil]
    rw [show (0 + 1 + 1) / 2 = 1 from rfl, List.range_one, List.map_cons, List.map_nil, List.sum_cons, List.sum_nil, pr_pair h]
    unfold pair tt rd
    simp
  | a :: b :: t, h => by
    have h2 := (bytesB_cons (bytesB_cons h).2).2
    have ih := all_tt t h2
    unfold HSum.all pre at ih ⊢
    simp only [List.length_cons]
    rw [show (t.length + 1 + 1 + 1) / 2 = (t.length + 1) / 2 + 1 by omega, List.range_succ_eq_map, List.map_cons, List.sum_cons, List.map_map]
    have e : (List.map ((fun k => pr (a :: b :: t) (2 * k)) ∘ Nat.succ) (List.range ((t.length + 1) / 2))) = List.map (fun k => pr t (2 * k)) (List.range ((t.length + 1) / 2)) := by
      refine List.map_congr_left fun k _ => ?_
      show pr (a :: b :: t) (2 * (k + 1)) = pr t (2 * k)
      rw [pr_pair h, pr_pair h2, show 2 * (k + 1) = 2 * k + 2 by omega, pair_two]
    rw [e, ih, pr_pair h]
    have e0 : pair (a :: b :: t) (2 * 0) = a * 256 + b := by
      unfold pair rd
      simp
    rw [e0]
    rfl

theorem sumW_tt {l : List Int} (h : bytesB l = true) : sumW l = norm (tt l) := by rw [sumW_norm h, all_tt l h]
theorem tt_nonneg {l : List Int} (h : bytesB l = true) : 0 ≤ tt l := by rw [← all_tt l h]; exact all_nonneg h

theorem tt_append : ∀ a b : List Int, a.length % 2 = 0 → tt (a ++ b) = tt a + tt b
  | [], b, _ => by simp [tt]
  | [_], _, h => by simp at h
  | x :: y :: t, b, h => by
    have := tt_append t b (by simp only [List.length_cons] at h; omega)
    show x * 256 + y + tt (t ++ b) = x * 256 + y + tt t + tt b
    rw [this]
    omega

theorem tt_turn (l : List Int) (k : Nat) (hk : k % 2 = 0) (hl : l.length % 2 = 0) (h : k ≤ l.length) : tt (l.drop k ++ l.take k) = tt l := by
  rw [tt_append _ _ (by rw [List.length_drop]; omega), Int.add_comm, ← tt_append _ _ (by rw [List.length_take]; omega), List.take_append_drop]

theorem tt_set : ∀ (m : Nat) (l : List Int) (a b : Int), 2 * m + 1 < l.length → tt ((l.set (2 * m) a).set (2 * m + 1) b) = tt l - (rd l ((2 * m : Nat) : Int) * 256 + rd l ((2 * m + 1 : Nat) : Int)) + (a * 256 + b)
  | 0, x :: y :: t, a, b, _ => by
    simp only [Nat.mul_zero, Nat.zero_add, List.set_cons_zero, List.set_cons_succ, tt]
    unfold rd
    simp
    omega
  | m + 1, x :: y :: t, a, b, h => by
    have ih := tt_set m t a b (by simp only [List.length_cons] at h; omega)
    rw [show 2 * (m + 1) = 2 * m + 2 by omega, show 2 * m + 2 + 1 = (2 * m + 1) + 2 by omega, rd_two, rd_two]
    simp only [List.set_cons_succ, tt]
    rw [ih]
    omega
  | _, [], _, _, h => by simp at h
  | _, [_], _, _, h => by simp at h

theorem norm_full (t : Int) (h : 0 ≤ t) : norm (t + (65535 - norm t)) = 65535 := by
  unfold norm
  split <;> (split <;> omega)
/-- A check sum turned is the one reckoned anew, or the two are nought and all ones. -/
theorem norm_turn (t was now : Int) (h : 0 ≤ t) (w0 : 0 ≤ was) (w1 : was ≤ 65535) (n0 : 0 ≤ now) (n1 : now ≤ 65535) (ht : 0 ≤ t - was) :
    let p := 65535 - addF (addF (norm t) (65535 - was)) now
    let q := 65535 - norm (t - was + now)
    (0 ≤ p ∧ p ≤ 65535) ∧ (0 ≤ q ∧ q ≤ 65535) ∧ (p = q ∨ (p + q = 65535 ∧ (p = 0 ∨ q = 0))) := by
  intro p q
  have h1 : addF (norm t) (65535 - was) = norm (t + (65535 - was)) := norm_add _ _ h (by omega) (by omega)
  have h2 : addF (norm (t + (65535 - was))) now = norm (t + (65535 - was) + now) := norm_add _ _ (by omega) n0 n1
  have b1 := norm_bd (t + (65535 - was) + now) (by omega)
  have b2 := norm_bd (t - was + now) (by omega)
  have m1 := norm_mod (t + (65535 - was) + now)
  have m2 := norm_mod (t - was + now)
  have hp : p = 65535 - norm (t + (65535 - was) + now) := by show 65535 - addF (addF (norm t) (65535 - was)) now = _; rw [h1, h2]
  have hq : q = 65535 - norm (t - was + now) := rfl
  omega

def twoS (n : Int) : List Int := [n % 65536 / 256, n % 256]
theorem twoS_bytes (n : Int) : bytesB (twoS n) = true := bytesB_of fun x hx => by
  unfold twoS at hx
  simp only [List.mem_cons, List.not_mem_nil, or_false] at hx
  omega
theorem tt_two (n : Int) (h0 : 0 ≤ n) (h1 : n ≤ 65535) : tt (twoS n) = n := by
  unfold twoS
  simp only [tt]
  omega
end Go.Proofs.Ytilkbmjkjlbfmaa.PSeg
