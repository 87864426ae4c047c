/- Plain law: a reference's number, read by a loop. Conditions: each lemma's own. -/
import Derived.Test.YtilkbmjkjlbfmaaPSegx10
import Derived.Test.YtilkbmjkjlbfmaaSegLView
namespace Go.Proofs.Ytilkbmjkjlbfmaa.PSeg
set_option linter.unusedVariables false
set_option linter.unusedSimpArgs false
open Go.RowKit Go.Proofs.YtilkbmjkjlbfmaaW.PrintWords Go.Proofs.YtilkbmjkjlbfmaaW.PrintLast Go.Proofs.YtilkbmjkjlbfmaaW.PrintMore Go.Proofs.Ytilkbmjkjlbfmaa.Ar Go.Proofs.Ytilkbmjkjlbfmaa.HSum

theorem number_loop (l : List Int) (hB : Bytes l) (hl : l.length ≤ 140737488351232) (i n : Nat) (hn : n ≤ 4) (hi : i + n ≤ l.length) : ∀ (d j k : Nat) (acc : Int), j + d = n → d < k → 0 ≤ acc → acc < 256 ^ j →
    towroperef09_number.l0 k l i n acc j = some (numF acc (((l.take (i + n)).drop i).drop j)) := by
  have hvl : ((l.take (i + n)).drop i).length = n := by simp; omega
  intro d
  induction d with
  | zero =>
    intro j k acc hj hk _ _
    obtain ⟨k, rfl⟩ : ∃ m, k = m + 1 := ⟨k - 1, by omega⟩
    simp only [towroperef09_number.l0]
    rw [if_neg (by omega), List.drop_of_length_le (by omega)]
    rfl
  | succ d ih =>
    intro j k acc hj hk h0 h1
    obtain ⟨k, rfl⟩ : ∃ m, k = m + 1 := ⟨k - 1, by omega⟩
    have c1 : (j : Int) < (n : Int) := Int.ofNat_lt.2 (by omega)
    have c2 : (0 : Int) ≤ ((i + j : Nat) : Int) := Int.natCast_nonneg _
    have c3 : ((i + j : Nat) : Int) < (l.length : Int) := Int.ofNat_lt.2 (by omega)
    have c4 : i + j ≤ 140737488351232 := by omega
    have c5 : j ≤ 3 := by omega
    have hr := hB.at_ ((i + j : Nat) : Int)
    have hp : (256 : Int) ^ j ≤ 16777216 := by
      rcases (by omega : j = 0 ∨ j = 1 ∨ j = 2 ∨ j = 3) with rfl | rfl | rfl | rfl <;> decide
    have ha : acc ≤ 16777215 := by omega
    have e1 : wrap64 ((i : Int) + j) = ((i + j : Nat) : Int) := w64 (n := ((i + j : Nat) : Int)) (by omega) (by omega)
    have e4 : wrap64 ((j : Int) + 1) = ((j + 1 : Nat) : Int) := w64 (n := ((j + 1 : Nat) : Int)) (by omega) (by omega)
    generalize hb : rd l ((i + j : Nat) : Int) = b at *
    have e2 : wrap64 (wrap64 (256 * acc) + wrap64 b) = 256 * acc + b := by
      rw [w64 (n := 256 * acc) (by omega) (by omega), w64 (n := b) (by omega) (by omega), w64 (by omega) (by omega)]
    simp only [towroperef09_number.l0]
    rw [e1, if_pos c1, if_pos c2, if_pos c3, hb, e2, e4]
    have := ih (j + 1) k (256 * acc + b) (by omega) (by omega) (by omega) (by rw [Int.pow_succ]; omega)
    rw [this, drop_cons ((l.take (i + n)).drop i) j (by omega), rd_view l i n j hi (by omega), hb]
    simp only [numF, List.foldl_cons]

theorem number_f (k : Nat) (l : List Int) (i n : Nat) (hB : Bytes l) (hl : l.length ≤ 140737488351232) (hn : n ≤ 4) (hi : i + n ≤ l.length) : towroperef09_number.f (k + 6) l i n = some (getS l i n).1 := by
  unfold towroperef09_number.f
  have := number_loop l hB hl i n hn hi n 0 (k + 6) 0 (by omega) (by omega) (by omega) (by simp)
  rw [List.drop_zero] at this
  unfold getS viewS
  rw [if_neg (by omega), if_neg (by omega), if_neg (by omega)]
  exact this
end Go.Proofs.Ytilkbmjkjlbfmaa.PSeg
