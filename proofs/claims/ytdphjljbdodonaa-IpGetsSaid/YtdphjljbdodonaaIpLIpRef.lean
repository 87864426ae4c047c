/- Plain law of layer 6: what the reference's Get comes to. Conditions: each lemma's own. -/
import Derived.Test.YtdphjljbdodonaaPIpx10
import Derived.Test.YtdphjljbdodonaaPIpx11
import Derived.Test.YtdphjljbdodonaaIpLIpGet
namespace Go.Proofs.Ytdphjljbdodonaa.PIp
set_option linter.unusedVariables false
set_option linter.unusedSimpArgs false
open Go.RowKit Go.Proofs.Ytdphjljbdodonaa.PIp Go.Proofs.YtdphjljbdodonaaW.PrintWords Go.Proofs.YtdphjljbdodonaaW.PrintLast Go.Proofs.YtdphjljbdodonaaW.PrintMore Go.Proofs.Ytdphjljbdodonaa.Ar Go.Proofs.Ytdphjljbdodonaa.HSum Go.Proofs.Ytdphjljbdodonaa.HExt

theorem num06_f (l : List Int) (hB : Bytes l) (i : Nat) (hi : i + 2 ≤ l.length) (hl : i ≤ 1000000) : towroperef06_number.f l i = some (w2 l i) := by
  have h0 := hB.at_ (i : Int)
  have h1 := hB.at_ ((i : Int) + 1)
  unfold towroperef06_number.f
  rw [w64 (n := (i : Int) + 1) (by omega) (by omega), if_pos (by omega), if_pos (by omega), if_pos (by omega), if_pos (by omega), w64 (n := rd l i) (by omega) (by omega), w64 (n := 256 * rd l i) (by omega) (by omega), w64 (n := rd l ((i : Int) + 1)) (by omega) (by omega), w64 (by omega) (by omega)]
  rfl

theorem refj1_f (k : Nat) (l : List Int) (h : bytesB l = true) (hl : l.length ≤ 70000) (h20 : 20 ≤ l.length) (t n : Int) (ht0 : 20 ≤ t) (ht : t ≤ l.length) (htn : t ≤ n) :
    towroperef06_Get.j1 (k + 1) l t n false = some (if (l.length : Int) < n then noIp 2 else (rd l 1, w2 l 4, rd l 6 / 64 % 2 == 1, rd l 6 / 32 % 2 == 1, w2 l 6 % 8192, rd l 8, rd l 9, 65536 * w2 l 12 + w2 l 14, 65536 * w2 l 16 + w2 l 18, (l.take t.toNat).drop 20, (l.take n.toNat).drop t.toNat, 0)) := by
  have hB : Bytes l := fun x hx => bytesB_mem h hx
  simp only [towroperef06_Get.j1]
  rw [if_neg (by simp)]
  by_cases hn : (l.length : Int) < n
  · rw [if_pos hn, if_pos hn]; rfl
  · rw [if_neg hn, if_neg hn]
    have n4 : towroperef06_number.f l 4 = some (w2 l 4) := num06_f l hB 4 (by omega) (by omega)
    have n6 : towroperef06_number.f l 6 = some (w2 l 6) := num06_f l hB 6 (by omega) (by omega)
    have n12 : towroperef06_number.f l 12 = some (w2 l 12) := num06_f l hB 12 (by omega) (by omega)
    have n14 : towroperef06_number.f l 14 = some (w2 l 14) := num06_f l hB 14 (by omega) (by omega)
    have n16 : towroperef06_number.f l 16 = some (w2 l 16) := num06_f l hB 16 (by omega) (by omega)
    have n18 : towroperef06_number.f l 18 = some (w2 l 18) := num06_f l hB 18 (by omega) (by omega)
    have b4 := w2_bd l hB 4
    have b6 := w2_bd l hB 6
    have b12 := w2_bd l hB 12
    have b14 := w2_bd l hB 14
    have b16 := w2_bd l hB 16
    have b18 := w2_bd l hB 18
    have r6 := hB.at_ 6
    rw [n4, n6, n12, n14, n16, n18]
    simp only [Option.bind_some]
    iterate 9 rw [if_pos (by omega)]
    rw [u16w, td _ _ (by omega), td _ _ (by omega), tm _ _ (by omega), w64 (n := 65536 * w2 l 12) (by omega) (by omega), w64 (n := 65536 * w2 l 16) (by omega) (by omega), w64 (n := 65536 * w2 l 12 + w2 l 14) (by omega) (by omega), w64 (n := 65536 * w2 l 16 + w2 l 18) (by omega) (by omega)]
    rw [show w2 l 4 % 65536 = w2 l 4 by omega, show rd l 6 / 64 % 256 % 2 = rd l 6 / 64 % 2 by omega, show rd l 6 / 32 % 256 % 2 = rd l 6 / 32 % 2 by omega, show (65536 * w2 l 12 + w2 l 14) % 4294967296 = 65536 * w2 l 12 + w2 l 14 by omega, show (65536 * w2 l 16 + w2 l 18) % 4294967296 = 65536 * w2 l 16 + w2 l 18 by omega]
theorem refj1_t (k : Nat) (l : List Int) (t n : Int) : towroperef06_Get.j1 (k + 1) l t n true = some (noIp 3) := by
  simp only [towroperef06_Get.j1]
  rfl

theorem refj0_f (k : Nat) (l : List Int) (h : bytesB l = true) (hl : l.length ≤ 70000) (h20 : 20 ≤ l.length) (b : Bool) (hb : b = true ↔ rd l 0 < 69 ∨ rd l 0 > 79) (hk : l.length + 10 ≤ k) :
    towroperef06_Get.j0 (k + 1) l b = some (getIp l) := by
  have hB : Bytes l := fun x hx => bytesB_mem h hx
  have r0 := hB.at_ 0
  simp only [towroperef06_Get.j0]
  unfold getIp
  rw [if_neg (show ¬ (l.length : Int) < 20 by omega)]
  by_cases hf : rd l 0 < 69 ∨ rd l 0 > 79
  · rw [if_pos (hb.2 hf), if_pos hf]; rfl
  · rw [if_neg (fun x => hf (hb.1 x)), if_neg hf, if_pos (by omega), w64 (n := rd l 0) (by omega) (by omega), w64 (n := rd l 0 - 64) (by omega) (by omega), w64 (n := 4 * (rd l 0 - 64)) (by omega) (by omega)]
    have ht : 4 * (rd l 0 - 64) = topS l := rfl
    rw [ht]
    have t0 : 20 ≤ topS l ∧ topS l ≤ 60 := by unfold topS; omega
    by_cases h2 : (l.length : Int) < topS l
    · rw [if_pos h2, if_pos h2]; rfl
    · rw [if_neg h2, if_neg h2, if_pos (by omega), if_pos (by omega), refsum_f k _ (by rw [List.length_take]; omega) (take_bytes h _) (by rw [List.length_take]; omega)]
      simp only [Option.bind_some]
      by_cases hs : sumW (l.take (topS l).toNat) = 65535
      · have n2 : towroperef06_number.f l 2 = some (w2 l 2) := num06_f l hB 2 (by omega) (by omega)
        obtain ⟨m, rfl⟩ : ∃ m, k = m + 1 := ⟨k - 1, by omega⟩
        rw [if_pos hs, if_neg (by simpa using hs), n2]
        simp only [Option.bind_some]
        by_cases ha : w2 l 2 < topS l
        · rw [if_pos ha, refj1_t, if_pos (.inl ha)]
        · rw [if_neg ha, if_pos (by omega)]
          by_cases h6 : rd l 6 ≥ 128
          · rw [decide_eq_true h6, refj1_t, if_pos (.inr h6)]
          · rw [decide_eq_false h6, refj1_f m l h hl h20 _ _ t0.1 (by omega) (by omega), if_neg (show ¬ (w2 l 2 < topS l ∨ rd l 6 ≥ 128) by omega)]
      · rw [if_neg hs, if_pos (by simpa using hs)]; rfl
theorem refget_f (k : Nat) (l : List Int) (h : bytesB l = true) (hl : l.length ≤ 70000) (hk : l.length + 11 ≤ k) : towroperef06_Get.f k l = some (getIp l) := by
  obtain ⟨k, rfl⟩ : ∃ m, k = m + 1 := ⟨k - 1, by omega⟩
  unfold towroperef06_Get.f
  by_cases h20 : (l.length : Int) < 20
  · rw [if_pos h20]
    unfold getIp
    rw [if_pos h20]
    rfl
  · rw [if_neg h20, if_pos (by omega)]
    by_cases h1 : rd l 0 < 69
    · rw [if_pos h1]
      exact refj0_f k l h hl (by omega) true ⟨fun _ => .inl h1, fun _ => rfl⟩ (by omega)
    · rw [if_neg h1]
      exact refj0_f k l h hl (by omega) _ ⟨fun x => .inr (of_decide_eq_true x), fun x => decide_eq_true (x.resolve_left h1)⟩ (by omega)

end Go.Proofs.Ytdphjljbdodonaa.PIp
