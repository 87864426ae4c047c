/- Plain law of layer 2: the head of addresses, and the check sum with it. Conditions: each lemma's own. -/
import Derived.Test.YtilkbmjkjlbfmaaPSegx10
import Derived.Test.YtilkbmjkjlbfmaaPSegx8
import Derived.Test.YtilkbmjkjlbfmaaSegLPut
import Derived.Test.YtilkbmjkjlbfmaaSegLFour
namespace Go.Proofs.Ytilkbmjkjlbfmaa.PSeg
set_option linter.unusedVariables false
set_option linter.unusedSimpArgs false
open Go.RowKit Go.Proofs.YtilkbmjkjlbfmaaW.PrintWords Go.Proofs.YtilkbmjkjlbfmaaW.PrintLast Go.Proofs.YtilkbmjkjlbfmaaW.PrintMore Go.Proofs.Ytilkbmjkjlbfmaa.Ar Go.Proofs.Ytilkbmjkjlbfmaa.HSum

def headS (s d p n : Int) : List Int := fourS s ++ fourS d ++ [0, p] ++ twoS n
theorem headS_len (s d p n : Int) : (headS s d p n).length = 12 := rfl
theorem headS_bytes (s d p n : Int) (p0 : 0 ≤ p) (p1 : p ≤ 255) : bytesB (headS s d p n) = true :=
  bytesB_append (bytesB_append (bytesB_append (fourS_bytes s) (fourS_bytes d)) (bytesB_of fun x hx => by simp only [List.mem_cons, List.not_mem_nil, or_false] at hx; omega)) (twoS_bytes n)
theorem head_f (k : Nat) (s d p n : Int) (s0 : 0 ≤ s) (s1 : s ≤ 4294967295) (d0 : 0 ≤ d) (d1 : d ≤ 4294967295) : sum_Head.f (k + 5) s d p n = some (headS s d p n) := by
  unfold sum_Head.f
  rw [put32_f k [] s s0 s1 (by simp)]
  simp only [Option.bind_some]
  rw [put32_f k _ d d0 d1 (by simp [fourS])]
  simp only [Option.bind_some]
  have hl : ([] ++ fourS s ++ fourS d).length = 8 := rfl
  rw [hl, if_pos (by simp), put16_f (k + 2) _ n (by simp [fourS])]
  rfl
theorem refhead_f (s d p n : Int) (s0 : 0 ≤ s) (s1 : s ≤ 4294967295) (d0 : 0 ≤ d) (d1 : d ≤ 4294967295) : towroperef02_Head.f s d p n = some (headS s d p n) := by
  unfold towroperef02_Head.f
  rw [four_f s s0 s1, four_f d d0 d1]
  simp only [Option.bind_some]
  have hl : (fourS s ++ fourS d).length = 8 := rfl
  have h4 : ∀ x, (fourS x).length = 4 := fun _ => rfl
  have h2 : ∀ x, (twoS x).length = 2 := fun _ => rfl
  rw [h4, h4, if_pos (by omega), hl, if_pos (by simp), two_f]
  simp only [Option.bind_some]
  rw [h2, List.length_append, hl, if_pos (by simp)]
  rfl

theorem of_tt (hd l : List Int) (hh : bytesB hd = true) (hb : bytesB l = true) (he : hd.length % 2 = 0) : ofW hd l = 65535 - sumW (hd ++ l) := by
  unfold ofW
  rw [sumW_tt hh, foldW_norm _ (all_bd hb) _ (tt_nonneg hh), all_tt l hb, sumW_tt (bytesB_append hh hb), tt_append hd l he]
theorem of_f (s d p : Int) (l : List Int) (s0 : 0 ≤ s) (s1 : s ≤ 4294967295) (d0 : 0 ≤ d) (d1 : d ≤ 4294967295) (p0 : 0 ≤ p) (p1 : p ≤ 255) (hl : l.length ≤ 140737488355315) (hb : bytesB l = true) :
    sum_Of.f s d p l = some (65535 - sumW (headS s d p l.length ++ l)) := by
  have hh := headS_bytes s d p l.length p0 p1
  unfold sum_Of.f
  rw [head_f 3 s d p _ s0 s1 d0 d1]
  simp only [Option.bind_some]
  rw [if_pos ⟨hh, hb, by rw [headS_len]; omega, by omega⟩, of_tt _ _ hh hb (by rw [headS_len])]
theorem refof_f (k : Nat) (s d p : Int) (l : List Int) (s0 : 0 ≤ s) (s1 : s ≤ 4294967295) (d0 : 0 ≤ d) (d1 : d ≤ 4294967295) (p0 : 0 ≤ p) (p1 : p ≤ 255) (hl : l.length ≤ 140737488351232) (hb : bytesB l = true) (hk : l.length + 20 ≤ k) :
    towroperef02_Of.f k s d p l = some (65535 - sumW (headS s d p l.length ++ l)) := by
  have hh := headS_bytes s d p l.length p0 p1
  have ht := sumW_top (bytesB_append hh hb)
  unfold towroperef02_Of.f
  rw [refhead_f s d p _ s0 s1 d0 d1]
  simp only [Option.bind_some]
  rw [headS_len, if_pos (by omega), refsum_f k _ (by rw [List.length_append, headS_len]; omega) (bytesB_append hh hb) (by rw [List.length_append, headS_len]; omega)]
  simp only [Option.bind_some]
  rw [w64 (by omega) (by omega)]
end Go.Proofs.Ytilkbmjkjlbfmaa.PSeg
