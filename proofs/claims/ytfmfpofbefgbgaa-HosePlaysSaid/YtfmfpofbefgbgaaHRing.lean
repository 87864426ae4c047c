/- A ring of bytes: what stands in it, what is written behind that, what is cut out of it: plain lists. No conditions beyond each lemma's own. -/
import Derived.Test.YtfmfpofbefgbgaaHExt
namespace Go.Proofs.Ytfmfpofbefgbgaa.HRing
open Go.Proofs.Ytfmfpofbefgbgaa.HExt
/-- What stands in a ring from place f on. -/
def cont (zs : List Int) (f n : Nat) : List Int := (List.range n).map fun j => zs.getD ((f + j) % zs.length) 0
theorem cont_length (zs : List Int) (f n : Nat) : (cont zs f n).length = n := by simp [cont]
theorem cont_get (zs : List Int) (f n j : Nat) (h : j < n) : (cont zs f n)[j]? = some (zs.getD ((f + j) % zs.length) 0) := by
  simp [cont, List.getElem?_map, List.getElem?_range h]
theorem cont_none (zs : List Int) (f n j : Nat) (h : n ≤ j) : (cont zs f n)[j]? = none := List.getElem?_eq_none (by rw [cont_length]; exact h)
theorem cont_drop (zs : List Int) (f n k : Nat) (hk : k ≤ n) : (cont zs f n).drop k = cont zs ((f + k) % zs.length) (n - k) := by
  apply List.ext_getElem?
  intro j
  rw [List.getElem?_drop]
  by_cases h : j < n - k
  · rw [cont_get _ _ _ _ (by omega), cont_get _ _ _ _ h, Nat.mod_add_mod, Nat.add_assoc]
  · rw [cont_none _ _ _ _ (by omega), cont_none _ _ _ _ (by omega)]
theorem cont_take (zs : List Int) (f n m : Nat) (hm : m ≤ n) : (cont zs f n).take m = cont zs f m := by
  apply List.ext_getElem?
  intro j
  rw [List.getElem?_take]
  by_cases h : j < m
  · rw [if_pos h, cont_get _ _ _ _ (by omega), cont_get _ _ _ _ h]
  · rw [if_neg h, cont_none _ _ _ _ (by omega)]
theorem cont_zero (zs : List Int) (f : Nat) : cont zs f 0 = [] := rfl
theorem getD_eq (xs : List Int) (j : Nat) (h : j < xs.length) : xs[j]? = some (xs.getD j 0) := by
  rw [List.getD_eq_getElem?_getD, List.getElem?_eq_getElem h]; rfl
/-- Two copies: from a place to the ring's end, then from its beginning. -/
theorem cont_cut (zs : List Int) (p m : Nat) (hp : p < zs.length) (hm : m ≤ zs.length) :
    cont zs p m = (zs.drop p).take (min m (zs.length - p)) ++ zs.take (m - min m (zs.length - p)) := by
  apply List.ext_getElem?
  intro j
  have hl : ((zs.drop p).take (min m (zs.length - p))).length = min m (zs.length - p) := by rw [List.length_take, List.length_drop]; omega
  by_cases h : j < m
  · rw [cont_get _ _ _ _ h]
    by_cases h1 : j < min m (zs.length - p)
    · rw [List.getElem?_append_left (by omega), List.getElem?_take, if_pos h1, List.getElem?_drop, getD_eq _ _ (by omega), Nat.mod_eq_of_lt (by omega)]
    · rw [List.getElem?_append_right (by omega), hl, List.getElem?_take, if_pos (by omega), getD_eq _ _ (by omega)]
      have e : p + j = (j - min m (zs.length - p)) + zs.length := by omega
      rw [e, Nat.add_mod_right, Nat.mod_eq_of_lt (by omega)]
  · rw [cont_none _ _ _ _ (by omega), List.getElem?_append_right (by omega), hl, List.getElem?_take, if_neg (by omega)]
theorem ovr_length (lo : Nat) (xs ts : List Int) (h : lo + ts.length ≤ xs.length) : (over lo xs ts).length = xs.length := by
  simp [over]; omega
theorem ovr_get (lo : Nat) (xs ts : List Int) (h : lo + ts.length ≤ xs.length) (j : Nat) (hj : j < xs.length) :
    (over lo xs ts).getD j 0 = if lo ≤ j ∧ j < lo + ts.length then ts.getD (j - lo) 0 else xs.getD j 0 := by
  have l1 : (xs.take lo).length = lo := by rw [List.length_take]; omega
  rw [List.getD_eq_getElem?_getD]
  unfold over
  by_cases h1 : j < lo
  · rw [List.getElem?_append_left (by omega), List.getElem?_take, if_pos h1, if_neg (by omega), getD_eq _ _ hj]; rfl
  · rw [List.getElem?_append_right (by omega), l1]
    by_cases h2 : j - lo < ts.length
    · rw [List.getElem?_append_left h2, if_pos (by omega), getD_eq _ _ h2]; rfl
    · rw [List.getElem?_append_right (by omega), if_neg (by omega), List.getElem?_drop, show lo + ts.length + (j - lo - ts.length) = j by omega, getD_eq _ _ hj]; rfl
/-- Written behind what is there, within one stretch of the ring. -/
theorem cont_write (zs ts : List Int) (f n : Nat) (hf : f < zs.length) (hn : n + ts.length ≤ zs.length)
    (he : (f + n) % zs.length + ts.length ≤ if (f + n) % zs.length < f then f else zs.length) (hp : 0 < ts.length) :
    cont (over ((f + n) % zs.length) zs ts) f (n + ts.length) = cont zs f n ++ ts := by
  have hfit : (f + n) % zs.length + ts.length ≤ zs.length := by split at he <;> omega
  have hlen := ovr_length _ zs ts hfit
  apply List.ext_getElem?
  intro j
  by_cases h : j < n + ts.length
  · rw [cont_get _ _ _ _ h, hlen, ovr_get _ _ _ hfit _ (Nat.mod_lt _ (by omega))]
    by_cases h1 : j < n
    · rw [List.getElem?_append_left (by rw [cont_length]; exact h1), cont_get _ _ _ _ h1, if_neg]
      rcases Nat.lt_or_ge (f + n) zs.length with a | a
      · rw [Nat.mod_eq_of_lt a] at *
        rw [Nat.mod_eq_of_lt (show f + j < zs.length by omega)]
        omega
      · have e : (f + n) % zs.length = f + n - zs.length := by rw [Nat.mod_eq_sub_mod a, Nat.mod_eq_of_lt (by omega)]
        rw [e] at he ⊢
        rw [if_pos (by omega)] at he
        rcases Nat.lt_or_ge (f + j) zs.length with c | c
        · rw [Nat.mod_eq_of_lt c]; omega
        · rw [Nat.mod_eq_sub_mod c, Nat.mod_eq_of_lt (by omega)]; omega
    · rw [List.getElem?_append_right (by rw [cont_length]; omega), cont_length, getD_eq _ _ (show j - n < ts.length by omega)]
      have e : (f + j) % zs.length = (f + n) % zs.length + (j - n) := by
        rw [show f + j = (f + n) + (j - n) by omega, ← Nat.mod_add_mod, Nat.mod_eq_of_lt (by omega)]
      rw [e, if_pos (by omega), show (f + n) % zs.length + (j - n) - (f + n) % zs.length = j - n by omega]
  · rw [cont_none _ _ _ _ (by omega), List.getElem?_eq_none (by rw [List.length_append, cont_length]; omega)]
/-- A new ring, with what was there at its beginning. -/
theorem cont_grown (xs : List Int) (m : Nat) (h : xs.length ≤ m) (z : Int) : cont (over 0 (List.replicate m z) xs) 0 xs.length = xs := by
  have hl := ovr_length 0 (List.replicate m z) xs (by simpa using h)
  apply List.ext_getElem?
  intro j
  by_cases hj : j < xs.length
  · rw [cont_get _ _ _ _ hj, hl, ovr_get _ _ _ (by simpa using h) _ (by rw [List.length_replicate]; exact Nat.mod_lt _ (by omega)), getD_eq _ _ hj]
    simp only [List.length_replicate, Nat.zero_add, Nat.sub_zero, Nat.zero_le, true_and]
    rw [Nat.mod_eq_of_lt (by omega), if_pos hj]
  · rw [cont_none _ _ _ _ (by omega), List.getElem?_eq_none (by omega)]
/-- What Peek's two copies leave. -/
theorem ovr_two (zs : List Int) (p m : Nat) (hp : p < zs.length) (hm : m ≤ zs.length) :
    over (min m (zs.length - p)) (over 0 (List.replicate m 0) ((zs.drop p).take (min m (zs.length - p)))) (zs.take (m - min m (zs.length - p))) = cont zs p m := by
  rw [cont_cut zs p m hp hm]
  have hl : ((zs.drop p).take (min m (zs.length - p))).length = min m (zs.length - p) := by rw [List.length_take, List.length_drop]; omega
  have h2 : (zs.take (m - min m (zs.length - p))).length = m - min m (zs.length - p) := by rw [List.length_take]; omega
  unfold over
  rw [hl, h2, List.take_zero, List.nil_append, Nat.zero_add]
  have e1 : ((zs.drop p).take (min m (zs.length - p)) ++ (List.replicate m (0 : Int)).drop (min m (zs.length - p))).take (min m (zs.length - p)) = (zs.drop p).take (min m (zs.length - p)) := by
    rw [List.take_append_of_le_length (by omega), List.take_of_length_le (by omega)]
  have e2 : ((zs.drop p).take (min m (zs.length - p)) ++ (List.replicate m (0 : Int)).drop (min m (zs.length - p))).drop (min m (zs.length - p) + (m - min m (zs.length - p))) = [] := by
    apply List.drop_eq_nil_of_le; rw [List.length_append, hl, List.length_drop, List.length_replicate]; omega
  rw [e1, e2, List.append_nil]
end Go.Proofs.Ytfmfpofbefgbgaa.HRing
