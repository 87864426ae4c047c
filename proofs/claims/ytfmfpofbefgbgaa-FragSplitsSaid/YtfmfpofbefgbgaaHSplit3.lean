/- frag.Split: one contract for every way. Conditions: each theorem's own. -/
import Derived.Test.YtfmfpofbefgbgaaHSplit2
namespace Go.Proofs.Ytfmfpofbefgbgaa.HSplit
open Go.RowKit Go.Proofs.YtfmfpofbefgbgaaW.PrintWords Go.Proofs.YtfmfpofbefgbgaaW.PrintLast Go.Proofs.YtfmfpofbefgbgaaW.PrintMore Go.Proofs.Ytfmfpofbefgbgaa.PFrb Go.Proofs.Ytfmfpofbefgbgaa.HCar
set_option linter.unusedVariables false
set_option linter.unusedSimpArgs false
theorem pad_go : ∀ (d : Nat) (l : List Int), (l.length + d) % 4 = 0 → l.length + d ≤ 100000 → ∃ p : List Int, (∀ k, octet_Pad.l0 (k + d + 1) 4 l = some (p, 0)) ∧ p.length % 4 = 0 ∧ p.length ≤ l.length + d
  | 0, l, h, hl => ⟨l, fun k => by
      simp only [Nat.add_zero, octet_Pad.l0]
      rw [if_neg (show ¬ ((4 : Int) = 0) by decide), if_pos (by omega)], by omega, by omega⟩
  | d + 1, l, h, hl => by
    by_cases h4 : (l.length : Int) % 4 = 0
    · refine ⟨l, fun k => ?_, by omega, by omega⟩
      simp only [octet_Pad.l0]
      rw [if_neg (show ¬ ((4 : Int) = 0) by decide), if_pos h4]
    · obtain ⟨p, hp, e, hle⟩ := pad_go d (l ++ [0]) (by rw [List.length_append]; simp; omega) (by rw [List.length_append]; simp; omega)
      refine ⟨p, fun k => ?_, e, by rw [List.length_append] at hle; simp at hle; omega⟩
      rw [show k + (d + 1) + 1 = (k + d + 1) + 1 from by omega]
      simp only [octet_Pad.l0]
      rw [if_neg (show ¬ ((4 : Int) = 0) by decide), if_neg h4, if_pos (by omega)]
      exact hp k
theorem pad_some (l : List Int) (hl : l.length ≤ 40) : ∃ p : List Int, octet_Pad.f 70 l 4 = some (p, 0) ∧ p.length % 4 = 0 ∧ p.length ≤ 40 := by
  obtain ⟨p, hp, e, hle⟩ := pad_go ((4 - l.length % 4) % 4) l (by omega) (by omega)
  refine ⟨p, ?_, e, by omega⟩
  unfold octet_Pad.f
  rw [if_neg (by decide)]
  have e : decide ((4 : Int) > 64) = false := by decide
  rw [e]
  simp only [octet_Pad.j0]
  unfold slices_Clone_byte_byte.f
  rw [if_neg (by simp), if_pos (by omega)]
  show octet_Pad.l0 69 4 l = some (p, 0)
  have := hp (68 - (4 - l.length % 4) % 4)
  rwa [show 68 - (4 - l.length % 4) % 4 + (4 - l.length % 4) % 4 + 1 = 69 from by omega] at this
theorem car_len : ∀ (m : Nat) (l out c : List Int), l.length = m → car l out = some c → c.length ≤ out.length + l.length := by
  intro m
  induction m using Nat.strongRecOn with
  | ind m ih =>
  intro l out c hm h
  cases l with
  | nil => rw [car_nil] at h; injection h with h; subst h; simp
  | cons x r =>
    simp only [List.length_cons] at hm ⊢
    by_cases x0 : x = 0
    · rw [x0, car_end] at h; injection h with h; subst h; omega
    · by_cases x1 : x = 1
      · rw [x1, car_pad] at h
        have := ih r.length (by omega) r out c rfl h
        omega
      · by_cases hb : 2 ≤ r.length + 1 ∧ 2 ≤ r.getD 0 0 ∧ r.getD 0 0 ≤ (r.length : Int) + 1
        · rw [car_more x r out x0 x1 hb] at h
          have hd : ((x :: r).drop (r.getD 0 0).toNat).length = r.length + 1 - (r.getD 0 0).toNat := by rw [List.length_drop, List.length_cons]
          have ht : ((x :: r).take (r.getD 0 0).toNat).length = (r.getD 0 0).toNat := by rw [List.length_take, List.length_cons]; omega
          have := ih _ (by rw [hd]; omega) _ _ c rfl h
          rw [hd] at this
          split at this
          · rw [List.length_append, ht] at this; omega
          · omega
        · rw [car_bad x r out x0 x1 hb] at h; cases h
theorem carF_some (l : List Int) (hb : HCar.bytes l = true) (hl : l.length ≤ 40) : ∃ (c : List Int) (e : Int), HCar.carF (fun l => octet_Pad.f 70 l 4) l = some (c, e) ∧ c.length ≤ 40 ∧ c.length % 4 = 0 := by
  unfold HCar.carF
  rw [if_pos hb, if_neg (by omega)]
  cases hc : car l [] with
  | none => exact ⟨[], 3, rfl, by simp, rfl⟩
  | some o =>
    have := car_len _ l [] o rfl hc
    obtain ⟨p, hp, h4, hle⟩ := pad_some o (by simp at this; omega)
    exact ⟨p, 0, by simp [hp], hle, h4⟩
/-- Which options each piece has, or the error. -/
def carT (l : List Int) : List Int × Int := (HCar.carF (fun l => octet_Pad.f 70 l 4) l).getD ([], 0)
/-- frag.Split, whole. -/
def splitT (p : S68) (mtu : Int) : List S68 × Int := splitF p mtu (carT p.f9).1 (carT p.f9).2
theorem split_any (a0 a1 : Int) (a2 a3 : Bool) (a4 a5 a6 a7 a8 : Int) (A9 : Option Addr) (N9 c9 : Nat) (l9 : List Int) (A10 : Option Addr) (N10 c10 : Nat) (l10 : List Int) (mtu : Int) (w : World)
    (hn9 : l9.length = N9) (hr9 : Kd.C (Kd.int .u8) w A9 N9 l9) (hc9 : N9 ≤ c9) (hn10 : l10.length = N10) (hr10 : Kd.C (Kd.int .u8) w A10 N10 l10) (hc10 : N10 ≤ c10) (hfit : Fit ⟨a0, a1, a2, a3, a4, a5, a6, a7, a8, l9, l10⟩) (hb : HCar.bytes l9 = true) :
    Calls Try.prog 40 #[.agg #[.int .u8 a0, .int .u16 a1, .bool a2, .bool a3, .int .i64 a4, .int .u8 a5, .int .u8 a6, .int .u32 a7, .int .u32 a8, .slice A9 N9 c9, .slice A10 N10 c10], .int .i64 mtu] w (Ans w (splitT ⟨a0, a1, a2, a3, a4, a5, a6, a7, a8, l9, l10⟩ mtu)) := by
  unfold splitT
  by_cases h0 : chk ⟨a0, a1, a2, a3, a4, a5, a6, a7, a8, l9, l10⟩ = 0
  · by_cases h1 : mtu < 68 ∨ 65535 < mtu
    · exact split_mtu a0 a1 a2 a3 a4 a5 a6 a7 a8 A9 N9 c9 l9 A10 N10 c10 l10 mtu _ _ w hn9 hr9 hc9 hn10 hr10 hc10 hfit h0 h1
    · by_cases h2 : lenP ⟨a0, a1, a2, a3, a4, a5, a6, a7, a8, l9, l10⟩ ≤ mtu
      · exact split_one a0 a1 a2 a3 a4 a5 a6 a7 a8 A9 N9 c9 l9 A10 N10 c10 l10 mtu _ _ w hn9 hr9 hc9 hn10 hr10 hc10 hfit h0 h1 h2
      · obtain ⟨c, e, hcar, hc40, -⟩ := carF_some l9 hb (chk_zero h0).2.2.1
        have hT : carT l9 = (c, e) := by unfold carT; rw [hcar]; rfl
        show Calls _ _ _ _ (Ans w (splitF _ mtu (carT l9).1 (carT l9).2))
        rw [hT]
        cases a2 with
        | true => exact split_whole a0 a1 true a3 a4 a5 a6 a7 a8 A9 N9 c9 l9 A10 N10 c10 l10 mtu c e w hn9 hr9 hc9 hn10 hr10 hc10 hfit h0 h1 h2 rfl
        | false =>
          by_cases h4 : e = 0
          · subst h4
            exact split_many a0 a1 a3 a4 a5 a6 a7 a8 A9 N9 c9 l9 A10 N10 c10 l10 mtu c w hn9 hr9 hc9 hn10 hr10 hc10 hfit h0 h1 h2 hcar hc40
          · exact split_err a0 a1 false a3 a4 a5 a6 a7 a8 A9 N9 c9 l9 A10 N10 c10 l10 mtu c e w hn9 hr9 hc9 hn10 hr10 hc10 hfit h0 h1 h2 rfl hcar h4
  · exact split_chk a0 a1 a2 a3 a4 a5 a6 a7 a8 A9 N9 c9 l9 A10 N10 c10 l10 mtu _ _ w hn9 hr9 hc9 hn10 hr10 hc10 hfit h0
end Go.Proofs.Ytfmfpofbefgbgaa.HSplit
