/- The reference of port: rows by kind, what its reading functions answer (Taken, Owner, Talks: printed), told of lists. Conditions: each theorem's own. -/
import Derived.Test.YtimgfdkndlbfbaaHPort4
import Derived.Test.YtimgfdkndlbfbaaPRpx3
import Derived.Test.YtimgfdkndlbfbaaPRpx4
import Derived.Test.YtimgfdkndlbfbaaPRpx5
namespace Go.Proofs.Ytimgfdkndlbfbaa.HPortR
open Go.RowKit Go.Proofs.YtimgfdkndlbfbaaW.PrintWords Go.Proofs.YtimgfdkndlbfbaaW.PrintLast Go.Proofs.YtimgfdkndlbfbaaW.PrintMore Go.Proofs.Ytimgfdkndlbfbaa.HPort Go.Proofs.Ytimgfdkndlbfbaa.PRp
set_option linter.unusedVariables false
set_option linter.unusedSimpArgs false
def isE (a p : Int) (x : S175) : Bool := x.f0.f0 == a && x.f0.f1 == p
def isQ (a p c d : Int) (x : S177) : Bool := x.f0.f0.f0 == a && x.f0.f0.f1 == p && (x.f0.f1.f0 == c && x.f0.f1.f1 == d)
def tkL (a p : Int) (x : S175) : Bool := x.f0.f1 == p && (x.f0.f0 == a || (x.f0.f0 == 0 || a == 0))
def fbL (l : List S175) (a p : Int) : Option Int := (l.find? (isE a p)).map (·.f1)
def fjL (l : List S177) (a p c d : Int) : Option Int := (l.find? (isQ a p c d)).map (·.f1)
theorem w64 (n : Int) (h0 : 0 ≤ n) (h1 : n ≤ 4611686018427387904) : wrap64 n = n := by unfold wrap64; omega
theorem rd175 {l : List S175} {i : Nat} (h : i < l.length) : rd_T175 l (i : Int) = l[i] := by simp [rd_T175, List.getD_eq_getElem?_getD, h]
theorem rd177 {l : List S177} {i : Nat} (h : i < l.length) : rd_T177 l (i : Int) = l[i] := by simp [rd_T177, List.getD_eq_getElem?_getD, h]
theorem taken_l (y0 y1 y2 : Int) (l : List S175) (l' : List S177) (a p : Int) (hl : l.length ≤ 2000) : ∀ (k i : Nat), l.length < k + i → i ≤ l.length → towroperef18_Taken.l0 k (i : Int) y0 y1 y2 l l' a p = some ((l.drop i).any (tkL a p))
  | 0, i, h1, h2 => by omega
  | k + 1, i, h1, h2 => by
    simp only [towroperef18_Taken.l0]
    by_cases h : i < l.length
    · rw [if_pos (by omega), if_pos (by omega), rd175 h, w64 _ (by omega) (by omega), show (i : Int) + 1 = ((i + 1 : Nat) : Int) by omega, taken_l y0 y1 y2 l l' a p hl k (i + 1) (by omega) (by omega), List.drop_eq_getElem_cons h, List.any_cons]
      unfold tkL
      by_cases c1 : l[i].f0.f1 = p
      · rw [if_pos c1]
        by_cases c2 : l[i].f0.f0 = a
        · rw [if_pos c2]; simp [c1, c2]
        · rw [if_neg c2]
          by_cases c3 : l[i].f0.f0 = 0
          · rw [if_pos c3]; simp [c1, c3]
          · rw [if_neg c3]
            by_cases c4 : a = 0
            · rw [if_pos c4]; simp [c1, c4]
            · rw [if_neg c4]; simp [c1, c2, c3, c4]
      · rw [if_neg c1]; simp [c1]
    · rw [if_neg (by omega), List.drop_eq_nil_of_le (by omega)]; rfl
theorem owner_l1 (y0 y1 y2 : Int) (l : List S175) (l' : List S177) (a p : Int) (hl : l.length ≤ 2000) : ∀ (k i : Nat), l.length < k + i → i ≤ l.length → towroperef18_Owner.l1 k (i : Int) y0 y1 y2 l l' a p = some ((((l.drop i).find? (isE 0 p)).map (·.f1)).getD 0, (((l.drop i).find? (isE 0 p)).map (·.f1)).isSome)
  | 0, i, h1, h2 => by omega
  | k + 1, i, h1, h2 => by
    simp only [towroperef18_Owner.l1]
    by_cases h : i < l.length
    · rw [if_pos (by omega), if_pos (by omega), rd175 h, w64 _ (by omega) (by omega), show (i : Int) + 1 = ((i + 1 : Nat) : Int) by omega, owner_l1 y0 y1 y2 l l' a p hl k (i + 1) (by omega) (by omega), List.drop_eq_getElem_cons h, List.find?_cons]
      by_cases c1 : l[i].f0.f1 = p
      · rw [if_pos c1]
        by_cases c2 : l[i].f0.f0 = 0
        · rw [if_pos c2, show isE 0 p l[i] = true by unfold isE; simp [c1, c2]]; rfl
        · rw [if_neg c2, show isE 0 p l[i] = false by unfold isE; simp [c1, c2]]
      · rw [if_neg c1, show isE 0 p l[i] = false by unfold isE; simp [c1]]
    · rw [if_neg (by omega), List.drop_eq_nil_of_le (by omega)]; rfl
theorem owner_l0 (y0 y1 y2 : Int) (l : List S175) (l' : List S177) (a p : Int) (hl : l.length ≤ 2000) : ∀ (k i : Nat), l.length + l.length + 1 < k + i → i ≤ l.length → towroperef18_Owner.l0 k (i : Int) y0 y1 y2 l l' a p = some (if ((l.drop i).find? (isE a p)).isSome then ((((l.drop i).find? (isE a p)).map (·.f1)).getD 0, true) else ((fbL l 0 p).getD 0, (fbL l 0 p).isSome))
  | 0, i, h1, h2 => by omega
  | k + 1, i, h1, h2 => by
    simp only [towroperef18_Owner.l0]
    by_cases h : i < l.length
    · rw [if_pos (by omega), if_pos (by omega), rd175 h, w64 _ (by omega) (by omega), show (i : Int) + 1 = ((i + 1 : Nat) : Int) by omega, owner_l0 y0 y1 y2 l l' a p hl k (i + 1) (by omega) (by omega), List.drop_eq_getElem_cons h, List.find?_cons]
      have e : isE a p l[i] = (l[i].f0.f0 == a && l[i].f0.f1 == p) := rfl
      rw [← e]
      cases isE a p l[i] <;> simp
    · rw [if_neg (by omega), List.drop_eq_nil_of_le (by omega)]
      have := owner_l1 y0 y1 y2 l l' a p hl k 0 (by omega) (Nat.zero_le _)
      rw [List.drop_zero] at this
      rw [show (0 : Int) = ((0 : Nat) : Int) from rfl, this]
      rfl
theorem talks_l (y0 y1 y2 : Int) (l' : List S175) (l : List S177) (a p c d : Int) (hl : l.length ≤ 2000) : ∀ (k i : Nat), l.length < k + i → i ≤ l.length → towroperef18_Talks.l0 k (i : Int) y0 y1 y2 l' l a p c d = some ((((l.drop i).find? (isQ a p c d)).map (·.f1)).getD 0, (((l.drop i).find? (isQ a p c d)).map (·.f1)).isSome)
  | 0, i, h1, h2 => by omega
  | k + 1, i, h1, h2 => by
    simp only [towroperef18_Talks.l0]
    by_cases h : i < l.length
    · rw [if_pos (by omega), if_pos (by omega), rd177 h, w64 _ (by omega) (by omega), show (i : Int) + 1 = ((i + 1 : Nat) : Int) by omega, talks_l y0 y1 y2 l' l a p c d hl k (i + 1) (by omega) (by omega), List.drop_eq_getElem_cons h, List.find?_cons]
      cases hq : isQ a p c d l[i]
      · rw [if_neg (by unfold isQ at hq; simp at hq ⊢; intro h1 h2 h3; exact hq h1 h2 h3)]
      · rw [if_pos (by unfold isQ at hq; simp at hq ⊢; exact hq)]
        simp
    · rw [if_neg (by omega), List.drop_eq_nil_of_le (by omega)]; rfl
end Go.Proofs.Ytimgfdkndlbfbaa.HPortR
