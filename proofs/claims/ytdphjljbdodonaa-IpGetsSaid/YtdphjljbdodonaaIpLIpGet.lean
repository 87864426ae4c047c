/- Plain law of layer 6: what ip's Get, and its reference, come to. Conditions: each lemma's own. -/
import Derived.Test.YtdphjljbdodonaaPIpx7
import Derived.Test.YtdphjljbdodonaaPIpx8
import Derived.Test.YtdphjljbdodonaaIpLIp

namespace Go.Proofs.Ytdphjljbdodonaa.PIp
set_option linter.unusedVariables false
set_option linter.unusedSimpArgs false
open Go.RowKit Go.Proofs.Ytdphjljbdodonaa.PIp Go.Proofs.YtdphjljbdodonaaW.PrintWords Go.Proofs.YtdphjljbdodonaaW.PrintLast Go.Proofs.YtdphjljbdodonaaW.PrintMore Go.Proofs.Ytdphjljbdodonaa.Ar Go.Proofs.Ytdphjljbdodonaa.HSum Go.Proofs.Ytdphjljbdodonaa.HExt

theorem i64_pow (i : Nat) (x : Int) (x0 : 0 ≤ x ∧ x ≤ 65535) (hi : i ≤ 15) : Go.bits .and .i64 x ((2 ^ i : Nat) : Int) = (x / ((2 ^ i : Nat) : Int) % 2) * ((2 ^ i : Nat) : Int) := by
  obtain ⟨a, rfl⟩ : ∃ a : Nat, x = a := ⟨x.toNat, by omega⟩
  have ha : a < 2 ^ 16 := by omega
  have hp : 2 ^ i < 2 ^ 16 := Nat.pow_lt_pow_right (by decide) (by omega)
  have := (bits_nat .i64 16 (by decide) (fun n h0 h1 => by rw [IntKind.wrap_i64]; omega) a (2 ^ i) ha hp).1
  have hand : a &&& 2 ^ i = (a / 2 ^ i % 2) * 2 ^ i := by
    apply Nat.eq_of_testBit_eq
    intro j
    rw [Nat.testBit_and, Nat.testBit_two_pow]
    have hm : a / 2 ^ i % 2 = 0 ∨ a / 2 ^ i % 2 = 1 := by omega
    have hb : Nat.testBit a i = decide (a / 2 ^ i % 2 = 1) := Nat.testBit_eq_decide_div_mod_eq
    rcases hm with h | h
    · rw [h, Nat.zero_mul, Nat.zero_testBit]
      by_cases hij : i = j
      · subst hij
        rw [hb, h]
        rfl
      · rw [decide_eq_false hij, Bool.and_false]
    · rw [h, Nat.one_mul, Nat.testBit_two_pow]
      by_cases hij : i = j
      · subst hij
        rw [hb, h]
        rfl
      · rw [decide_eq_false hij, Bool.and_false]
  rw [this, hand]
  have hm : a / 2 ^ i % 2 = 0 ∨ a / 2 ^ i % 2 = 1 := by omega
  have hc : ((a : Int) / ((2 ^ i : Nat) : Int) % 2) = ((a / 2 ^ i % 2 : Nat) : Int) := by simp
  rw [hc]
  rcases hm with h | h <;> rw [h] <;> simp
theorem and_whole (x : Int) (x0 : 0 ≤ x ∧ x ≤ 65535) : Go.bits .and .i64 x 16384 = (x / 16384 % 2) * 16384 := i64_pow 14 x x0 (by decide)
theorem and_more (x : Int) (x0 : 0 ≤ x ∧ x ≤ 65535) : Go.bits .and .i64 x 8192 = (x / 8192 % 2) * 8192 := i64_pow 13 x x0 (by decide)
theorem and_spare (x : Int) (x0 : 0 ≤ x ∧ x ≤ 65535) : Go.bits .and .i64 x 32768 = (x / 32768 % 2) * 32768 := i64_pow 15 x x0 (by decide)
theorem and_off (x : Int) (x0 : 0 ≤ x ∧ x ≤ 65535) : Go.bits .and .i64 x 8191 = x % 8192 :=
  bits_mask .i64 16 (by decide) (fun n h0 h1 => by rw [IntKind.wrap_i64]; omega) 13 (by decide) x x0.1 (by omega)

abbrev IpR := Int × Int × Bool × Bool × Int × Int × Int × Int × Int × List Int × List Int × Int
def noIp (e : Int) : IpR := (0, 0, false, false, 0, 0, 0, 0, 0, [], [], e)
/-- What is got from bytes, told as the reference tells it. -/
def topS (l : List Int) : Int := 4 * (rd l 0 - 64)
def getIp (l : List Int) : IpR :=
  if (l.length : Int) < 20 then noIp 2 else if rd l 0 < 69 ∨ rd l 0 > 79 then noIp 3 else if (l.length : Int) < topS l then noIp 2 else if sumW (l.take (topS l).toNat) ≠ 65535 then noIp 4
  else if w2 l 2 < topS l ∨ rd l 6 ≥ 128 then noIp 3 else if (l.length : Int) < w2 l 2 then noIp 2
  else (rd l 1, w2 l 4, rd l 6 / 64 % 2 == 1, rd l 6 / 32 % 2 == 1, w2 l 6 % 8192, rd l 8, rd l 9, 65536 * w2 l 12 + w2 l 14, 65536 * w2 l 16 + w2 l 18, (l.take (topS l).toNat).drop 20, (l.take (w2 l 2).toNat).drop (topS l).toNat, 0)
theorem take_bytes {l : List Int} (h : bytesB l = true) (n : Nat) : bytesB (l.take n) = true := bytesB_of fun _ hx => bytesB_mem h (List.mem_of_mem_take hx)

/-- What 'size' tells: the head's length, the length, the error. -/
def sizeS (l : List Int) : Int × Int × Int :=
  if (l.length : Int) < 20 then (0, 0, 2) else if rd l 0 < 69 ∨ rd l 0 > 79 then (0, 0, 3) else if (l.length : Int) < topS l then (0, 0, 2) else if sumW (l.take (topS l).toNat) ≠ 65535 then (0, 0, 4)
  else if w2 l 2 < topS l ∨ rd l 6 ≥ 128 then (0, 0, 3) else if (l.length : Int) < w2 l 2 then (0, 0, 2) else (topS l, w2 l 2, 0)
theorem size_f (k : Nat) (l : List Int) (h : bytesB l = true) (hl : l.length ≤ 70000) : ip_size.f (k + 7) l = some (sizeS l) := by
  have hB : Bytes l := fun x hx => bytesB_mem h hx
  have r0 := hB.at_ 0
  have hj : ∀ b : Bool, (b = true ↔ rd l 0 < 69 ∨ rd l 0 > 79) → ¬ (l.length : Int) < 20 → ip_size.j0 (k + 7) l b = some (sizeS l) := by
    intro b hb h20
    simp only [ip_size.j0]
    unfold sizeS
    rw [if_neg h20]
    by_cases hf : rd l 0 < 69 ∨ rd l 0 > 79
    · rw [if_pos (hb.2 hf), if_pos hf]
    · rw [if_neg (fun x => hf (hb.1 x)), if_neg hf, if_pos (by omega), show Go.bits .and .u8 (rd l 0) 15 = rd l 0 % 16 from u8_and15 _ (by omega) (by omega), w64 (n := rd l 0 % 16) (by omega) (by omega), w64 (n := 4 * (rd l 0 % 16)) (by omega) (by omega)]
      have ht : 4 * (rd l 0 % 16) = topS l := by unfold topS; omega
      rw [ht]
      have t0 : 20 ≤ topS l ∧ topS l ≤ 60 := by unfold topS; omega
      by_cases h2 : (l.length : Int) < topS l
      · rw [if_pos h2, if_pos h2]
      · rw [if_neg h2, if_neg h2, if_pos (by omega), if_pos (by omega), right_f _ (by rw [List.length_take]; omega) (take_bytes h _)]
        simp only [Option.bind_some]
        by_cases hs : sumW (l.take (topS l).toNat) = 65535
        · have g2 := get16_f (k + 1) l 2 hB (by omega) (by omega) (by omega)
          have g6 := get16_f (k + 1) l 6 hB (by omega) (by omega) (by omega)
          have e2 : getS l 2 2 = (w2 l 2, 0) := getS2 l 2 (by omega)
          have e6 : getS l 6 2 = (w2 l 6, 0) := getS2 l 6 (by omega)
          have b6 := w2_bd l hB 6
          rw [if_pos (by simpa using hs), if_neg (by simpa using hs), show k + 6 = k + 1 + 5 by omega, g2, g6, e2, e6]
          simp only [Option.bind_some, and_spare _ b6]
          have r6 := hB.at_ 6
          have r7 := hB.at_ 7
          have e7 : w2 l 6 = 256 * rd l 6 + rd l 7 := rfl
          by_cases ha : w2 l 2 < topS l
          · rw [if_pos ha, if_pos (.inl ha)]
            simp only [ip_size.j1, if_true]
          · rw [if_neg ha]
            by_cases h6 : rd l 6 ≥ 128
            · rw [if_pos (.inr h6), show (w2 l 6 / 32768 % 2 * 32768 != 0) = true by rw [bne_iff_ne]; omega]
              simp only [ip_size.j1, if_true]
            · rw [if_neg (by omega), show (w2 l 6 / 32768 % 2 * 32768 != 0) = false by rw [bne_eq_false_iff_eq]; omega]
              simp only [ip_size.j1]
              rw [if_neg (by simp)]
              split <;> rfl
        · rw [if_neg (by simpa using hs), if_pos (by simpa using hs)]
  unfold ip_size.f
  by_cases h20 : (l.length : Int) < 20
  · rw [if_pos h20]
    unfold sizeS
    rw [if_pos h20]
  · rw [if_neg h20, if_pos (by omega)]
    by_cases h1 : rd l 0 < 69
    · rw [if_pos h1]
      exact hj true ⟨fun _ => .inl h1, fun _ => rfl⟩ h20
    · rw [if_neg h1]
      exact hj _ ⟨fun x => .inr (of_decide_eq_true x), fun x => decide_eq_true (x.resolve_left h1)⟩ h20

theorem ipget_f (k : Nat) (l : List Int) (h : bytesB l = true) (hl : l.length ≤ 70000) : ip_Get.f (k + 7) l = some (getIp l) := by
  have hB : Bytes l := fun x hx => bytesB_mem h hx
  unfold ip_Get.f
  rw [size_f k l h hl]
  simp only [Option.bind_some]
  unfold sizeS getIp
  by_cases h20 : (l.length : Int) < 20
  · rw [if_pos h20, if_pos h20]; rfl
  rw [if_neg h20, if_neg h20]
  by_cases hf : rd l 0 < 69 ∨ rd l 0 > 79
  · rw [if_pos hf, if_pos hf]; rfl
  rw [if_neg hf, if_neg hf]
  by_cases h2 : (l.length : Int) < topS l
  · rw [if_pos h2, if_pos h2]; rfl
  rw [if_neg h2, if_neg h2]
  by_cases hs : sumW (l.take (topS l).toNat) ≠ 65535
  · rw [if_pos hs, if_pos hs]; rfl
  rw [if_neg hs, if_neg hs]
  by_cases ha : w2 l 2 < topS l ∨ rd l 6 ≥ 128
  · rw [if_pos ha, if_pos ha]; rfl
  rw [if_neg ha, if_neg ha]
  by_cases hn : (l.length : Int) < w2 l 2
  · rw [if_pos hn, if_pos hn]; rfl
  rw [if_neg hn, if_neg hn]
  simp only [if_true]
  have r0 := hB.at_ 0
  have t0 : 20 ≤ topS l ∧ topS l ≤ 60 := by unfold topS; omega
  have g4 := get16_f (k + 2) l 4 hB (by omega) (by omega) (by omega)
  have g6 := get16_f (k + 2) l 6 hB (by omega) (by omega) (by omega)
  have g12 := get32_f (k + 2) l 12 hB (by omega) (by omega) (by omega)
  have g16 := get32_f (k + 2) l 16 hB (by omega) (by omega) (by omega)
  have e4 : getS l 4 2 = (w2 l 4, 0) := getS2 l 4 (by omega)
  have e6 : getS l 6 2 = (w2 l 6, 0) := getS2 l 6 (by omega)
  have e12 : getS l 12 4 = (65536 * w2 l 12 + w2 l 14, 0) := getS4 l 12 (by omega)
  have e16 : getS l 16 4 = (65536 * w2 l 16 + w2 l 18, 0) := getS4 l 16 (by omega)
  have b4 := w2_bd l hB 4
  have b6 := w2_bd l hB 6
  have r6 := hB.at_ 6
  have r7 := hB.at_ 7
  have e7 : w2 l 6 = 256 * rd l 6 + rd l 7 := rfl
  rw [show k + 7 = k + 2 + 5 by omega, g4, g6, g12, g16, e4, e6, e12, e16]
  simp only [Option.bind_some]
  iterate 5 rw [if_pos (by omega)]
  rw [clone_f _ (by rw [List.length_drop, List.length_take]; omega)]
  simp only [Option.bind_some]
  iterate 3 rw [if_pos (by omega)]
  rw [clone_f _ (by rw [List.length_drop, List.length_take]; omega)]
  simp only [Option.bind_some]
  rw [u16w, and_whole _ b6, and_more _ b6, and_off _ b6, show w2 l 4 % 65536 = w2 l 4 by omega]
  rw [show (w2 l 6 / 16384 % 2 * 16384 != 0) = (rd l 6 / 64 % 2 == 1) by rw [Bool.eq_iff_iff, bne_iff_ne, beq_iff_eq]; omega, show (w2 l 6 / 8192 % 2 * 8192 != 0) = (rd l 6 / 32 % 2 == 1) by rw [Bool.eq_iff_iff, bne_iff_ne, beq_iff_eq]; omega]
end Go.Proofs.Ytdphjljbdodonaa.PIp
