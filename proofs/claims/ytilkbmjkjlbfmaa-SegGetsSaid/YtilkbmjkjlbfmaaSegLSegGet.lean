/- Plain law of layer 9: what segments are got of bytes, by the program and by the reference. Conditions: each lemma's own. -/
import Derived.Test.YtilkbmjkjlbfmaaPSegx1
import Derived.Test.YtilkbmjkjlbfmaaPSegx10
import Derived.Test.YtilkbmjkjlbfmaaPSegx11
import Derived.Test.YtilkbmjkjlbfmaaPSegx2
import Derived.Test.YtilkbmjkjlbfmaaPSegx4
import Derived.Test.YtilkbmjkjlbfmaaPSegx5
import Derived.Test.YtilkbmjkjlbfmaaPSegx6
import Derived.Test.YtilkbmjkjlbfmaaPSegx9
import Derived.Test.YtilkbmjkjlbfmaaSegLSegRead
import Derived.Test.YtilkbmjkjlbfmaaSegLHead
import Derived.Test.YtilkbmjkjlbfmaaSegLNum
namespace Go.Proofs.Ytilkbmjkjlbfmaa.PSeg
set_option linter.unusedVariables false
set_option linter.unusedSimpArgs false
open Go.RowKit Go.Proofs.Ytilkbmjkjlbfmaa.PSeg Go.Proofs.YtilkbmjkjlbfmaaW.PrintWords Go.Proofs.YtilkbmjkjlbfmaaW.PrintLast Go.Proofs.YtilkbmjkjlbfmaaW.PrintMore Go.Proofs.Ytilkbmjkjlbfmaa.Ar Go.Proofs.Ytilkbmjkjlbfmaa.HSum Go.Proofs.Ytilkbmjkjlbfmaa.HExt Go.Proofs.Ytilkbmjkjlbfmaa.HRead

theorem seg_code (x : Int) : towropelaw09_code.f x = some x := rfl
theorem seg_live : ∀ k, towropelaw09_live.f (k + 10) = some true := by
  intro k
  induction k with
  | zero => decide +kernel
  | succ k ih => exact towropelaw09_live.mono (k + 10) true ih
abbrev SegR := Int × Int × Int × Int × Int × Int × Int × Int × List Int × Int
def noSeg (e : Int) : SegR := (0, 0, 0, 0, 0, 0, 0, 0, [], e)
def topT (l : List Int) : Int := 4 * (rd l 12 / 16)
def rdOpt (l : List Int) : Int × Int × Int := (seg_Read.f l).getD (0, 0, 0)
theorem rdOpt_f (k : Nat) (l : List Int) (hb : bytesB l = true) (hl : l.length ≤ 70000) (hk : 3 * l.length + 1 ≤ k) : seg_Read.f l = some (rdOpt l) ∧ towroperef09_Read.f k l = some (rdOpt l) := by
  obtain ⟨r, h1, h2⟩ := read_f k l hb hl hk
  unfold rdOpt
  rw [h1]
  exact ⟨rfl, h2⟩
def getSeg (s d : Int) (l : List Int) : SegR :=
  if (l.length : Int) < 20 then noSeg 2 else if topT l < 20 then noSeg 3 else if (l.length : Int) < topT l then noSeg 2 else if sumW (headS s d 6 l.length ++ l) ≠ 65535 then noSeg 4
  else if (rdOpt ((l.take (topT l).toNat).drop 20)).2.2 = 0 then
    (w2 l 0, w2 l 2, 65536 * w2 l 4 + w2 l 6, 65536 * w2 l 8 + w2 l 10, rd l 13 % 64, w2 l 14, (rdOpt ((l.take (topT l).toNat).drop 20)).1, (rdOpt ((l.take (topT l).toNat).drop 20)).2.1, l.drop (topT l).toNat, 0)
  else noSeg (rdOpt ((l.take (topT l).toNat).drop 20)).2.2
theorem and63 : ∀ n : Nat, n < 256 → Go.bits .and .u8 (n : Int) 63 = (n : Int) % 64 := by decide +kernel
theorem and63' (x : Int) (h : 0 ≤ x ∧ x ≤ 255) : Go.bits .and .u8 x 63 = x % 64 := by
  have := and63 x.toNat (by omega)
  rwa [Int.toNat_of_nonneg h.1] at this
theorem wrap16 (x : Int) (h : 0 ≤ x ∧ x ≤ 65535) : IntKind.u16.wrap x = x := by rw [u16w]; omega
theorem part_bytes {l : List Int} (h : bytesB l = true) (m n : Nat) : bytesB ((l.take m).drop n) = true := bytesB_of fun x hx => bytesB_mem h (List.mem_of_mem_take (List.mem_of_mem_drop hx))
theorem segget_f (k : Nat) (s d : Int) (l : List Int) (s0 : 0 ≤ s ∧ s ≤ 4294967295) (d0 : 0 ≤ d ∧ d ≤ 4294967295) (h : bytesB l = true) (hl : l.length ≤ 70000) : seg_Get.f (k + 5) s d l = some (getSeg s d l) := by
  have hB : Bytes l := fun x hx => bytesB_mem h hx
  have b12 := hB.at_ 12
  have b13 := hB.at_ 13
  have hs := sumW_top (bytesB_append (headS_bytes s d 6 l.length (by omega) (by omega)) h)
  unfold seg_Get.f getSeg
  by_cases h1 : (l.length : Int) < 20
  · rw [if_pos h1, if_pos h1]; rfl
  rw [if_neg h1, if_neg h1, if_pos (by omega), w64 (n := rd l 12 / 16) (by omega) (by omega), w64 (n := 4 * (rd l 12 / 16)) (by omega) (by omega)]
  have ht : 4 * (rd l 12 / 16) = topT l := rfl
  rw [ht]
  by_cases h2 : topT l < 20
  · rw [if_pos h2, if_pos h2]; rfl
  rw [if_neg h2, if_neg h2]
  by_cases h3 : (l.length : Int) < topT l
  · rw [if_pos h3, if_pos h3]; rfl
  rw [if_neg h3, if_neg h3, of_f s d 6 l s0.1 s0.2 d0.1 d0.2 (by omega) (by omega) (by omega) h, Option.bind_some]
  by_cases h4 : sumW (headS s d 6 l.length ++ l) ≠ 65535
  · rw [if_neg (by omega), if_pos h4]; rfl
  rw [if_pos (by omega), if_neg h4, if_pos (by omega), if_pos (by omega)]
  have hr := rdOpt_f (3 * ((l.take (topT l).toNat).drop 20).length + 1) ((l.take (topT l).toNat).drop 20) (part_bytes h _ _) (by rw [List.length_drop, List.length_take]; omega) (Nat.le_refl _)
  rw [hr.1, Option.bind_some]
  by_cases h5 : (rdOpt ((l.take (topT l).toNat).drop 20)).2.2 = 0
  · have g0 : getS l 0 2 = (w2 l 0, 0) := getS2 l 0 (by omega)
    have g2 : getS l 2 2 = (w2 l 2, 0) := getS2 l 2 (by omega)
    have g14 : getS l 14 2 = (w2 l 14, 0) := getS2 l 14 (by omega)
    have g4 : getS l 4 4 = (65536 * w2 l 4 + w2 l 6, 0) := getS4 l 4 (by omega)
    have g8 : getS l 8 4 = (65536 * w2 l 8 + w2 l 10, 0) := getS4 l 8 (by omega)
    have q0 := w2_bd l hB 0; have q2 := w2_bd l hB 2; have q14 := w2_bd l hB 14
    rw [if_pos h5, if_pos h5, get16_f k l 0 hB (by omega) (by omega) (by omega), Option.bind_some, get16_f k l 2 hB (by omega) (by omega) (by omega), Option.bind_some, get16_f k l 14 hB (by omega) (by omega) (by omega), Option.bind_some,
      if_pos (by omega), if_pos (by omega), clone_f _ (by rw [List.length_drop]; omega), Option.bind_some, get32_f k l 4 hB (by omega) (by omega) (by omega), Option.bind_some, get32_f k l 8 hB (by omega) (by omega) (by omega), Option.bind_some, g0, g2, g14, g4, g8, and63' _ b13]
    dsimp only
    rw [wrap16 _ q0, wrap16 _ q2, wrap16 _ q14]
  · rw [if_neg h5, if_neg h5]; rfl
theorem refsegget_f (k : Nat) (s d : Int) (l : List Int) (s0 : 0 ≤ s ∧ s ≤ 4294967295) (d0 : 0 ≤ d ∧ d ≤ 4294967295) (h : bytesB l = true) (hl : l.length ≤ 70000) (hk : 3 * l.length + 30 ≤ k) : towroperef09_Get.f k s d l = some (getSeg s d l) := by
  have hB : Bytes l := fun x hx => bytesB_mem h hx
  have b12 := hB.at_ 12
  have b13 := hB.at_ 13
  have hs := sumW_top (bytesB_append (headS_bytes s d 6 l.length (by omega) (by omega)) h)
  obtain ⟨j, rfl⟩ : ∃ j, k = j + 6 := ⟨k - 6, by omega⟩
  unfold towroperef09_Get.f getSeg
  by_cases h1 : (l.length : Int) < 20
  · rw [if_pos h1, if_pos h1]; rfl
  rw [if_neg h1, if_neg h1, if_pos (by omega), w64 (n := rd l 12) (by omega) (by omega), td _ _ b12.1, w64 (n := rd l 12 / 16) (by omega) (by omega), w64 (n := 4 * (rd l 12 / 16)) (by omega) (by omega)]
  have ht : 4 * (rd l 12 / 16) = topT l := rfl
  rw [ht]
  by_cases h2 : topT l < 20
  · rw [if_pos h2, if_pos h2]; rfl
  rw [if_neg h2, if_neg h2]
  by_cases h3 : (l.length : Int) < topT l
  · rw [if_pos h3, if_pos h3]; rfl
  rw [if_neg h3, if_neg h3, refof_f (j + 6) s d 6 l s0.1 s0.2 d0.1 d0.2 (by omega) (by omega) (by omega) h (by omega), Option.bind_some]
  by_cases h4 : sumW (headS s d 6 l.length ++ l) ≠ 65535
  · rw [if_neg (by omega), if_pos h4]; rfl
  rw [if_pos (by omega), if_neg h4, if_pos (by omega), if_pos (by omega)]
  have hr := rdOpt_f (j + 6) ((l.take (topT l).toNat).drop 20) (part_bytes h _ _) (by rw [List.length_drop, List.length_take]; omega) (by rw [List.length_drop, List.length_take]; omega)
  rw [hr.2, Option.bind_some]
  by_cases h5 : (rdOpt ((l.take (topT l).toNat).drop 20)).2.2 = 0
  · have g0 : getS l 0 2 = (w2 l 0, 0) := getS2 l 0 (by omega)
    have g2 : getS l 2 2 = (w2 l 2, 0) := getS2 l 2 (by omega)
    have g14 : getS l 14 2 = (w2 l 14, 0) := getS2 l 14 (by omega)
    have g4 : getS l 4 4 = (65536 * w2 l 4 + w2 l 6, 0) := getS4 l 4 (by omega)
    have g8 : getS l 8 4 = (65536 * w2 l 8 + w2 l 10, 0) := getS4 l 8 (by omega)
    have q0 := w2_bd l hB 0; have q2 := w2_bd l hB 2; have q14 := w2_bd l hB 14
    have q4 := w2_bd l hB 4; have q6 := w2_bd l hB 6; have q8 := w2_bd l hB 8; have q10 := w2_bd l hB 10
    have n0 : towroperef09_number.f (j + 6) l 0 2 = some (w2 l 0) := (number_f j l 0 2 hB (by omega) (by omega) (by omega)).trans (by rw [show (((0 : Nat) : Int)) = 0 from rfl, show (((2 : Nat) : Int)) = 2 from rfl, g0])
    have n2 : towroperef09_number.f (j + 6) l 2 2 = some (w2 l 2) := (number_f j l 2 2 hB (by omega) (by omega) (by omega)).trans (by rw [show (((2 : Nat) : Int)) = 2 from rfl, g2])
    have n14 : towroperef09_number.f (j + 6) l 14 2 = some (w2 l 14) := (number_f j l 14 2 hB (by omega) (by omega) (by omega)).trans (by rw [show (((14 : Nat) : Int)) = 14 from rfl, show (((2 : Nat) : Int)) = 2 from rfl, g14])
    have n4 : towroperef09_number.f (j + 6) l 4 4 = some (65536 * w2 l 4 + w2 l 6) := (number_f j l 4 4 hB (by omega) (by omega) (by omega)).trans (by rw [show (((4 : Nat) : Int)) = 4 from rfl, g4])
    have n8 : towroperef09_number.f (j + 6) l 8 4 = some (65536 * w2 l 8 + w2 l 10) := (number_f j l 8 4 hB (by omega) (by omega) (by omega)).trans (by rw [show (((8 : Nat) : Int)) = 8 from rfl, show (((4 : Nat) : Int)) = 4 from rfl, g8])
    rw [if_pos h5, if_pos h5, n0, Option.bind_some, n2, Option.bind_some, n4, Option.bind_some, n8, Option.bind_some, if_pos (by omega), n14, Option.bind_some, if_pos (by omega), wrap16 _ q0, wrap16 _ q2, wrap16 _ q14, tm _ _ b13.1,
      show (65536 * w2 l 4 + w2 l 6) % 4294967296 = 65536 * w2 l 4 + w2 l 6 by omega, show (65536 * w2 l 8 + w2 l 10) % 4294967296 = 65536 * w2 l 8 + w2 l 10 by omega]
  · rw [if_neg h5, if_neg h5]; rfl
theorem segsame_refl (a0 a1 a2 a3 a4 a5 a6 a7 : Int) (a : List Int) : towroperef09_Same.f a0 a1 a2 a3 a4 a5 a6 a7 a a0 a1 a2 a3 a4 a5 a6 a7 a = some true := by
  simp [towroperef09_Same.f]
end Go.Proofs.Ytilkbmjkjlbfmaa.PSeg
