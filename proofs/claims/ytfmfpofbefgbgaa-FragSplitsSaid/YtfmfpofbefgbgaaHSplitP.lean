/- Plain law: the reference's Split answers as frag's. Conditions: each lemma's own. -/
import Derived.Test.YtfmfpofbefgbgaaHSplitC
import Derived.Test.YtfmfpofbefgbgaaPFrbx8
namespace Go.Proofs.Ytfmfpofbefgbgaa.HSplitC
open Go.RowKit Go.Proofs.Ytfmfpofbefgbgaa.PFrb Go.Proofs.YtfmfpofbefgbgaaW.PrintWords Go.Proofs.YtfmfpofbefgbgaaW.PrintLast Go.Proofs.Ytfmfpofbefgbgaa.HCar Go.Proofs.Ytfmfpofbefgbgaa.HSplit
set_option linter.unusedVariables false
set_option linter.unusedSimpArgs false
theorem rlen_f_ (p : S68) (h : Fit p) : towroperef06_Len.f p.f0 p.f1 p.f2 p.f3 p.f4 p.f5 p.f6 p.f7 p.f8 p.f9 p.f10 = some (lenP p) := by
  unfold towroperef06_Len.f lenP
  unfold Fit at h
  rw [w64_ (n := 20 + (p.f9.length : Int)) (by omega) (by omega), w64_ (by omega) (by omega)]
theorem chkR (p : S68) (h : Fit p) (k : Nat) : towroperef06_Check.f (k + 1) p.f0 p.f1 p.f2 p.f3 p.f4 p.f5 p.f6 p.f7 p.f8 p.f9 p.f10 = some (chk p) := by
  unfold towroperef06_Check.f chk
  have hl := rlen_f_ p h
  by_cases c1 : p.f4 < 0
  · rw [if_pos c1, if_pos (.inl c1)]; rfl
  rw [if_neg c1]
  by_cases c2 : 8191 < p.f4
  · rw [if_pos (show p.f4 > 8191 from c2), if_pos (.inr (.inl c2))]; rfl
  rw [if_neg (show ¬ p.f4 > 8191 from c2)]
  by_cases c3 : 40 < p.f9.length
  · rw [if_pos (show (p.f9.length : Int) > 40 by omega), if_pos (.inr (.inr (.inl c3)))]; rfl
  rw [if_neg (show ¬ (p.f9.length : Int) > 40 by omega)]
  simp only [towroperef06_Check.j0]
  by_cases c4 : p.f9.length % 4 = 0
  · rw [show (((p.f9.length : Int) % 4) != 0) = false by simp; omega, if_neg (show ¬ (p.f4 < 0 ∨ 8191 < p.f4 ∨ 40 < p.f9.length ∨ p.f9.length % 4 ≠ 0) by omega)]
    simp only [Bool.false_eq_true, if_false, hl, Option.bind_some]
    by_cases c5 : 65535 < lenP p
    · rw [if_pos (show lenP p > 65535 from c5), if_pos c5]
    · rw [if_neg (show ¬ lenP p > 65535 from c5), if_neg c5]
  · rw [show (((p.f9.length : Int) % 4) != 0) = true by simp; omega, if_pos rfl, if_pos (show p.f4 < 0 ∨ 8191 < p.f4 ∨ 40 < p.f9.length ∨ p.f9.length % 4 ≠ 0 from .inr (.inr (.inr c4)))]
def told (o : Option (List S68)) : List S68 × Int := match o with
  | none => ([], 8)
  | some l => (l, 0)
theorem drop_take_ (l : List Int) (a r : Nat) : (l.take (a + r)).drop a = (l.drop a).take r := by
  rw [List.drop_take, Nat.add_sub_cancel_left]
theorem refpcs (a0 a1 : Int) (a2 a3 : Bool) (a4 a5 a6 a7 a8 : Int) (l9 l10 c : List Int) (mtu : Int) (h4 : 0 ≤ a4 ∧ a4 ≤ 8191) (h9 : l9.length ≤ 40) (hc : c.length ≤ 40) (hm : 68 ≤ mtu ∧ mtu ≤ 65535) (hl : l10.length ≤ 70000) :
    ∀ (kk a : Nat) (out : List S68), l10.length - a < kk → a ≤ l10.length → out.length ≤ a →
    ∃ K, ∀ k, towroperef11_Split.l0 (k + K) mtu c out (a : Int) a0 a1 a2 a3 a4 a5 a6 a7 a8 l9 l10 = some (told (pcs ⟨a0, a1, a2, a3, a4, a5, a6, a7, a8, l9, l10⟩ c mtu kk a out)) := by
  intro kk
  induction kk with
  | zero => intro a out h; omega
  | succ kk ih =>
    intro a out hk ha ho
    unfold pcs
    by_cases hlt : a < l10.length
    · rw [if_pos (show a < (S68.mk a0 a1 a2 a3 a4 a5 a6 a7 a8 l9 l10).f10.length from hlt)]
      obtain ⟨o, hoo⟩ : ∃ o, (if 0 < a then c else l9) = o := ⟨_, rfl⟩
      have hol : o.length ≤ 40 := by rw [← hoo]; split <;> omega
      have hd : (l10.drop a).length = l10.length - a := List.length_drop ..
      have hp : piece ⟨a0, a1, a2, a3, a4, a5, a6, a7, a8, l9, l10⟩ c mtu a = if mtu < 20 + (o.length : Int) + (l10.drop a).length then ⟨a0, a1, a2, true, a4 + (a : Int) / 8, a5, a6, a7, a8, o, (l10.drop a).take (room mtu o.length)⟩ else ⟨a0, a1, a2, a3, a4 + (a : Int) / 8, a5, a6, a7, a8, o, l10.drop a⟩ := by
        unfold piece
        simp only [hoo]
      have hp4 : (piece ⟨a0, a1, a2, a3, a4, a5, a6, a7, a8, l9, l10⟩ c mtu a).f4 = a4 + (a : Int) / 8 := by rw [hp]; split <;> rfl
      have td : Int.tdiv (a : Int) 8 = (a : Int) / 8 := Int.tdiv_eq_ediv_of_nonneg (by omega)
      have wq : wrap64 (a4 + wrap64 (Int.tdiv (a : Int) 8)) = a4 + (a : Int) / 8 := by
        rw [td, w64_ (n := (a : Int) / 8) (by omega) (by omega), w64_ (by omega) (by omega)]
      have wl : wrap64 ((l10.length : Int) - (a : Int)) = (l10.length : Int) - (a : Int) := w64_ (by omega) (by omega)
      have wr : wrap64 ((wrap64 (mtu - 20)) - (o.length : Int)) = mtu - 20 - (o.length : Int) := by
        rw [w64_ (n := mtu - 20) (by omega) (by omega), w64_ (by omega) (by omega)]
      -- what j2 answers
      have hj : ∃ K, ∀ k, towroperef11_Split.j2 (k + K) mtu c out (a : Int) a0 a1 a2 a3 a4 a5 a6 a7 a8 l9 l10 a0 a1 a2 a3 a4 a5 a6 a7 a8 o l10 = some (told (if 8191 < (piece ⟨a0, a1, a2, a3, a4, a5, a6, a7, a8, l9, l10⟩ c mtu a).f4 then none else pcs ⟨a0, a1, a2, a3, a4, a5, a6, a7, a8, l9, l10⟩ c mtu kk (a + (piece ⟨a0, a1, a2, a3, a4, a5, a6, a7, a8, l9, l10⟩ c mtu a).f10.length) (out ++ [piece ⟨a0, a1, a2, a3, a4, a5, a6, a7, a8, l9, l10⟩ c mtu a]))) := by
        by_cases h8 : 8191 < a4 + (a : Int) / 8
        · refine ⟨1, fun k => ?_⟩
          simp only [towroperef11_Split.j2]
          rw [wq, if_pos (show a4 + (a : Int) / 8 > 8191 from h8), hp4, if_pos h8]
          rfl
        · rw [hp4, if_neg h8]
          by_cases hmm : mtu < 20 + (o.length : Int) + (l10.drop a).length
          · rw [if_pos hmm] at hp
            have hrm : (room mtu o.length : Int) = (mtu - 20 - (o.length : Int)) / 8 * 8 := by unfold room; omega
            have ht : ((l10.drop a).take (room mtu o.length)).length = room mtu o.length := by rw [List.length_take, hd]; omega
            have wd : wrap64 ((a : Int) + wrap64 (wrap64 (Int.tdiv (mtu - 20 - (o.length : Int)) 8) * 8)) = ((a + room mtu o.length : Nat) : Int) := by
              rw [show Int.tdiv (mtu - 20 - (o.length : Int)) 8 = (mtu - 20 - (o.length : Int)) / 8 from Int.tdiv_eq_ediv_of_nonneg (by omega), w64_ (n := (mtu - 20 - (o.length : Int)) / 8) (by omega) (by omega), w64_ (n := (mtu - 20 - (o.length : Int)) / 8 * 8) (by omega) (by omega), ← hrm, w64_ (by omega) (by omega)]
              omega
            rw [hp]
            simp only [ht]
            obtain ⟨K, hK⟩ := ih (a + room mtu o.length) (out ++ [⟨a0, a1, a2, true, a4 + (a : Int) / 8, a5, a6, a7, a8, o, (l10.drop a).take (room mtu o.length)⟩]) (by omega) (by omega) (by rw [List.length_append, List.length_singleton]; omega)
            refine ⟨K + 1, fun k => ?_⟩
            rw [show k + (K + 1) = k + K + 1 from by omega]
            simp only [towroperef11_Split.j2]
            rw [wq, if_neg (show ¬ a4 + (a : Int) / 8 > 8191 from h8), wl, wr, if_neg (by omega), if_pos (by omega), wd, if_pos (by omega), if_pos (by omega), if_pos (by omega), Int.toNat_natCast, Int.toNat_natCast, drop_take_]
            exact hK k
          · rw [if_neg hmm] at hp
            rw [hp]
            simp only [hd]
            obtain ⟨K, hK⟩ := ih (a + (l10.length - a)) (out ++ [⟨a0, a1, a2, a3, a4 + (a : Int) / 8, a5, a6, a7, a8, o, l10.drop a⟩]) (by omega) (by omega) (by rw [List.length_append, List.length_singleton]; omega)
            refine ⟨K + 1, fun k => ?_⟩
            rw [show k + (K + 1) = k + K + 1 from by omega]
            simp only [towroperef11_Split.j2]
            rw [wq, if_neg (show ¬ a4 + (a : Int) / 8 > 8191 from h8), wl, wr, if_pos (by omega), if_pos (by omega), if_pos (by omega), if_pos (by omega), Int.toNat_natCast]
            have := hK k
            rw [show ((a + (l10.length - a) : Nat) : Int) = (l10.length : Int) from by omega] at this
            exact this
      obtain ⟨K, hK⟩ := hj
      refine ⟨K + 1, fun k => ?_⟩
      rw [show k + (K + 1) = k + K + 1 from by omega]
      simp only [towroperef11_Split.l0]
      rw [if_pos (show (a : Int) < (l10.length : Int) by omega)]
      have := hK k
      by_cases h0 : 0 < a
      · rw [if_pos (show (a : Int) > 0 by omega)]
        rw [if_pos h0] at hoo
        subst hoo
        exact this
      · rw [if_neg (show ¬ (a : Int) > 0 by omega)]
        rw [if_neg h0] at hoo
        subst hoo
        exact this
    · rw [if_neg (show ¬ a < (S68.mk a0 a1 a2 a3 a4 a5 a6 a7 a8 l9 l10).f10.length from hlt)]
      refine ⟨1, fun k => ?_⟩
      simp only [towroperef11_Split.l0]
      rw [if_neg (by omega)]
      rfl
theorem splitR (a0 a1 : Int) (a2 a3 : Bool) (a4 a5 a6 a7 a8 : Int) (l9 l10 : List Int) (mtu : Int) (hl : l10.length ≤ 70000) (h9 : l9.length ≤ 100) (hb : HCar.bytes l9 = true) : ∃ k, towroperef11_Split.f k a0 a1 a2 a3 a4 a5 a6 a7 a8 l9 l10 mtu = some (splitT ⟨a0, a1, a2, a3, a4, a5, a6, a7, a8, l9, l10⟩ mtu) := by
  have hfit : Fit ⟨a0, a1, a2, a3, a4, a5, a6, a7, a8, l9, l10⟩ := ⟨by show l9.length ≤ 100000; omega, by show l10.length ≤ 100000; omega⟩
  have hchk := chkR ⟨a0, a1, a2, a3, a4, a5, a6, a7, a8, l9, l10⟩ hfit
  have hlen := rlen_f_ ⟨a0, a1, a2, a3, a4, a5, a6, a7, a8, l9, l10⟩ hfit
  simp only at hchk hlen
  unfold splitT splitF towroperef11_Split.f
  by_cases h0 : chk ⟨a0, a1, a2, a3, a4, a5, a6, a7, a8, l9, l10⟩ = 0
  · rw [if_neg (by omega)]
    obtain ⟨k0, k1, k2, k3, k4⟩ := chk_zero h0
    simp only at k0 k1 k2
    have hj : ∃ k, 0 < k ∧ towroperef11_Split.j0 k mtu (decide (mtu < 68 ∨ 65535 < mtu)) a0 a1 a2 a3 a4 a5 a6 a7 a8 l9 l10 = some (if mtu < 68 ∨ 65535 < mtu then ([], 1) else if lenP ⟨a0, a1, a2, a3, a4, a5, a6, a7, a8, l9, l10⟩ ≤ mtu then ([⟨a0, a1, a2, a3, a4, a5, a6, a7, a8, l9, l10⟩], 0) else if a2 = true then ([], 110) else if (carT l9).2 ≠ 0 then ([], (carT l9).2) else told (pcs ⟨a0, a1, a2, a3, a4, a5, a6, a7, a8, l9, l10⟩ (carT l9).1 mtu (l10.length + 1) 0 [])) := by
      by_cases h1 : mtu < 68 ∨ 65535 < mtu
      · refine ⟨1, by decide, ?_⟩
        rw [decide_eq_true h1, if_pos h1]
        rfl
      · rw [decide_eq_false h1, if_neg h1]
        by_cases h2 : lenP ⟨a0, a1, a2, a3, a4, a5, a6, a7, a8, l9, l10⟩ ≤ mtu
        · refine ⟨1, by decide, ?_⟩
          rw [if_pos h2]
          simp only [towroperef11_Split.j0, Bool.false_eq_true, if_false, hlen, Option.bind_some]
          rw [if_pos h2]
        · rw [if_neg h2]
          by_cases h3 : a2 = true
          · refine ⟨1, by decide, ?_⟩
            rw [if_pos h3]
            simp only [towroperef11_Split.j0, Bool.false_eq_true, if_false, hlen, Option.bind_some]
            rw [if_neg h2, if_pos h3]
          · rw [if_neg h3]
            obtain ⟨c, e, hcar, hc40, hc4⟩ := carF_some l9 hb k2
            have hT : carT l9 = (c, e) := by unfold carT; rw [hcar]; rfl
            obtain ⟨K1, hK1⟩ := carR l9 hb
            rw [hT] at hK1 ⊢
            by_cases h4 : e = 0
            · subst h4
              obtain ⟨K2, hK2⟩ := refpcs a0 a1 a2 a3 a4 a5 a6 a7 a8 l9 l10 c mtu ⟨k0, k1⟩ k2 hc40 (by omega) hl (l10.length + 1) 0 [] (by omega) (by omega) (by simp)
              refine ⟨K2 + K1 + 1, by omega, ?_⟩
              simp only [towroperef11_Split.j0, Bool.false_eq_true, if_false, hlen, Option.bind_some]
              rw [if_neg h2, if_neg h3, hK1 K2]
              simp only [Option.bind_some, if_true]
              rw [if_neg (by simp), show K2 + K1 = K1 + K2 from Nat.add_comm _ _]
              exact hK2 K1
            · refine ⟨K1 + 1, by omega, ?_⟩
              simp only [towroperef11_Split.j0, Bool.false_eq_true, if_false, hlen, Option.bind_some]
              have := hK1 0
              rw [Nat.zero_add] at this
              rw [if_neg h2, if_neg h3, this]
              simp only [Option.bind_some]
              rw [if_neg h4, if_pos h4]
    obtain ⟨k, hk0, hk⟩ := hj
    refine ⟨k, ?_⟩
    obtain ⟨k, rfl⟩ : ∃ k', k = k' + 1 := ⟨k - 1, by omega⟩
    rw [hchk k, h0]
    simp only [Option.bind_some, if_true]
    rw [show (if mtu < 68 then towroperef11_Split.j0 (k + 1) mtu true a0 a1 a2 a3 a4 a5 a6 a7 a8 l9 l10 else towroperef11_Split.j0 (k + 1) mtu (decide (mtu > 65535)) a0 a1 a2 a3 a4 a5 a6 a7 a8 l9 l10) = towroperef11_Split.j0 (k + 1) mtu (decide (mtu < 68 ∨ 65535 < mtu)) a0 a1 a2 a3 a4 a5 a6 a7 a8 l9 l10 from by
      by_cases h : mtu < 68
      · rw [if_pos h, decide_eq_true (.inl h)]
      · rw [if_neg h, show decide (mtu < 68 ∨ 65535 < mtu) = decide (mtu > 65535) from by simp [h]]]
    exact hk
  · refine ⟨1, ?_⟩
    rw [if_pos h0, hchk 0]
    simp only [Option.bind_some]
    rw [if_neg h0]
end Go.Proofs.Ytfmfpofbefgbgaa.HSplitC
