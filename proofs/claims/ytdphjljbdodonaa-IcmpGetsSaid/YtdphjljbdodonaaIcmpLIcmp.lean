/- Plain law of layer 7: what icmp's Put and Get, and their references, come to. Conditions: each lemma's own. -/
import Derived.Test.YtdphjljbdodonaaPIcmpx1
import Derived.Test.YtdphjljbdodonaaPIcmpx2
import Derived.Test.YtdphjljbdodonaaPIcmpx3
import Derived.Test.YtdphjljbdodonaaPIcmpx4
import Derived.Test.YtdphjljbdodonaaPIcmpx5
import Derived.Test.YtdphjljbdodonaaPIcmpx7
import Derived.Test.YtdphjljbdodonaaIcmpLNum
namespace Go.Proofs.Ytdphjljbdodonaa.PIcmp
set_option linter.unusedVariables false
set_option linter.unusedSimpArgs false
open Go.RowKit Go.Proofs.YtdphjljbdodonaaW.PrintWords Go.Proofs.YtdphjljbdodonaaW.PrintLast Go.Proofs.YtdphjljbdodonaaW.PrintMore Go.Proofs.Ytdphjljbdodonaa.Ar Go.Proofs.Ytdphjljbdodonaa.HSum Go.Proofs.Ytdphjljbdodonaa.HExt

/-- A message with its check sum. -/
def msgS (t c r : Int) (l : List Int) : List Int := [t, c] ++ (twoS (65535 - sumW ([t, c, 0, 0] ++ (fourS r ++ l))) ++ (fourS r ++ l))
theorem raw_bytes {t c r : Int} {l : List Int} (t0 : 0 ≤ t ∧ t ≤ 255) (c0 : 0 ≤ c ∧ c ≤ 255) (h : bytesB l = true) : bytesB ([t, c, 0, 0] ++ (fourS r ++ l)) = true :=
  bytesB_append (bytesB_of fun x hx => by simp only [List.mem_cons, List.not_mem_nil, or_false] at hx; omega) (bytesB_append (fourS_bytes r) h)
theorem msg_bytes {t c r : Int} {l : List Int} (t0 : 0 ≤ t ∧ t ≤ 255) (c0 : 0 ≤ c ∧ c ≤ 255) (h : bytesB l = true) : bytesB (msgS t c r l) = true :=
  bytesB_append (bytesB_of fun x hx => by simp only [List.mem_cons, List.not_mem_nil, or_false] at hx; omega) (bytesB_append (twoS_bytes _) (bytesB_append (fourS_bytes r) h))
theorem msg_len (t c r : Int) (l : List Int) : (msgS t c r l).length = l.length + 8 := by
  unfold msgS twoS fourS
  simp only [List.length_append, List.length_cons, List.length_nil]
  omega

theorem icmpput_f (k : Nat) (t c r : Int) (l : List Int) (t0 : 0 ≤ t ∧ t ≤ 255) (c0 : 0 ≤ c ∧ c ≤ 255) (r0 : 0 ≤ r ∧ r ≤ 4294967295) (h : bytesB l = true) :
    icmp_Put.f (k + 5) t c r l = if (l.length : Int) > 65507 then some ([], 9) else some (msgS t c r l, 0) := by
  unfold icmp_Put.f
  by_cases hl : (l.length : Int) > 65507
  · rw [if_pos hl, if_pos hl]
  · rw [if_neg hl, if_neg hl, put32_f k _ r r0.1 r0.2 (by simp)]
    have hb := raw_bytes (r := r) t0 c0 h
    rw [← List.append_assoc] at hb
    simp only [Option.bind_some]
    have e4 : ([t, c, 0, 0] ++ fourS r).length = 8 := rfl
    rw [if_pos (by omega), check_f _ (by rw [List.length_append]; omega) hb]
    simp only [Option.bind_some]
    rw [show k + 5 = (k + 2) + 3 by omega, put16_f (k + 2) [] _ (by simp)]
    simp only [Option.bind_some, List.nil_append]
    rw [if_pos ⟨by rw [List.length_append, e4]; simp only [twoS, List.length_cons, List.length_nil]; omega, by simp [twoS]⟩]
    unfold over msgS
    rw [List.append_assoc]
    rfl

theorem two_low (n : Int) (h0 : 0 ≤ n) (h1 : n ≤ 65535) : towroperef01_Two.f (wrap64 n) = some (twoS n) := by rw [w64 (by omega) (by omega), two_f]
theorem refbytes_f (k : Nat) (t c r : Int) (l : List Int) (t0 : 0 ≤ t ∧ t ≤ 255) (c0 : 0 ≤ c ∧ c ≤ 255) (r0 : 0 ≤ r ∧ r ≤ 4294967295) (h : bytesB l = true) (hl : l.length ≤ 1000000) (hk : l.length + 20 ≤ k) :
    towroperef07_Bytes.f k t c r l = some (msgS t c r l) := by
  have hb := raw_bytes (r := r) t0 c0 h
  have e4 : (fourS r).length = 4 := rfl
  have ht := sumW_top hb
  unfold towroperef07_Bytes.f
  rw [four_f r r0.1 r0.2]
  simp only [Option.bind_some]
  rw [if_pos (by omega)]
  have e8 : (fourS r ++ l).length = l.length + 4 := by rw [List.length_append, e4]; omega
  rw [if_pos (by rw [e8]; simp only [List.length_cons, List.length_nil]; omega), refsum_f k _ (by rw [List.length_append, e8]; simp only [List.length_cons, List.length_nil]; omega) hb (by rw [List.length_append, e8]; simp only [List.length_cons, List.length_nil]; omega)]
  simp only [Option.bind_some]
  rw [two_low _ (by omega) (by omega)]
  simp only [Option.bind_some]
  rw [if_pos (by simp [twoS]), if_pos (by simp [twoS]), if_pos (by rw [e8]; simp only [List.length_cons, List.length_nil]; omega)]
  rfl

theorem icmpget_f (k : Nat) (l : List Int) (h : bytesB l = true) (hl : l.length ≤ 140737488351232) :
    icmp_Get.f (k + 5) l = if (l.length : Int) < 8 then some (0, 0, 0, [], 2) else if sumW l = 65535 then some (rd l 0, rd l 1, (getS l 4 4).1, l.drop 8, 0) else some (0, 0, 0, [], 4) := by
  unfold icmp_Get.f
  have hB : Bytes l := fun x hx => bytesB_mem h hx
  by_cases h8 : (l.length : Int) < 8
  · rw [if_pos h8, if_pos h8]
  · rw [if_neg h8, if_neg h8, right_f l (by omega) h]
    simp only [Option.bind_some]
    by_cases hs : sumW l = 65535
    · rw [if_pos (by simpa using hs), if_pos hs, get32_f k l 4 hB hl (by omega) (by omega)]
      simp only [Option.bind_some]
      rw [if_pos (by omega), if_pos (by omega), if_pos (by omega), clone_f _ (by rw [List.length_drop]; omega)]
      rfl
    · rw [if_neg (by simpa using hs), if_neg hs]
theorem refget_f (k : Nat) (l : List Int) (h : bytesB l = true) (hl : l.length ≤ 140737488351232) (hk : l.length + 8 ≤ k) :
    towroperef07_Get.f k l = if (l.length : Int) < 8 then some (0, 0, 0, [], 2) else if sumW l = 65535 then some (rd l 0, rd l 1, (getS l 4 4).1, l.drop 8, 0) else some (0, 0, 0, [], 4) := by
  unfold towroperef07_Get.f
  have hB : Bytes l := fun x hx => bytesB_mem h hx
  by_cases h8 : (l.length : Int) < 8
  · rw [if_pos h8, if_pos h8]
  · rw [if_neg h8, if_neg h8, refsum_f k l (by omega) h (by omega)]
    simp only [Option.bind_some]
    by_cases hs : sumW l = 65535
    · obtain ⟨m, rfl⟩ : ∃ m, k = m + 6 := ⟨k - 6, by omega⟩
      have h4 := getS_bd l hB 4 4
      have h5 := pow_le256 (viewS_len_n l 4 4 (by omega))
      have h6 : (256 : Int) ^ (4 : Int).toNat = 4294967296 := by decide
      have hn := number_f m l 4 4 hB hl (by omega) (by omega)
      rw [if_pos hs, if_pos hs, if_pos (by omega), if_pos (by omega)]
      rw [show ((4 : Nat) : Int) = 4 from rfl] at hn
      rw [hn]
      simp only [Option.bind_some]
      rw [if_pos (by omega), show (getS l 4 4).1 % 4294967296 = (getS l 4 4).1 by omega]
    · rw [if_neg hs, if_neg hs]

theorem icmp_live (k : Nat) : towropelaw07_live.f (k + 5) = some true := by
  unfold towropelaw07_live.f icmp_Echo.f
  rw [clone_f [] (by simp)]
  simp only [Option.bind_some]
  rw [icmpput_f k 8 0 _ [] (by omega) (by omega) (by decide +kernel) (by rfl), if_neg (by simp)]
  simp only [Option.bind_some, towropelaw07_code.f, if_true]
  decide +kernel
theorem code_f (x : Int) : towropelaw07_code.f x = some x := rfl

theorem four_num (r : Int) (r0 : 0 ≤ r ∧ r ≤ 4294967295) : numF 0 (fourS r) = r := by
  unfold fourS numF
  simp only [List.foldl_cons, List.foldl_nil]
  omega
theorem msg_sum {t c r : Int} {l : List Int} (t0 : 0 ≤ t ∧ t ≤ 255) (c0 : 0 ≤ c ∧ c ≤ 255) (h : bytesB l = true) : ∃ u, 0 ≤ u ∧ tt (msgS t c r l) = u + (65535 - norm u) ∧ sumW (msgS t c r l) = 65535 := by
  have hb := raw_bytes (r := r) t0 c0 h
  have hm := msg_bytes (r := r) t0 c0 h
  have hs := sumW_tt hb
  have h0 := tt_nonneg hb
  have hn := norm_bd _ h0
  have e1 : tt ([t, c, 0, 0] ++ (fourS r ++ l)) = tt [t, c, 0, 0] + tt (fourS r ++ l) := tt_append _ _ (by simp [twoS])
  have e2 : tt (msgS t c r l) = tt [t, c] + (tt (twoS (65535 - sumW ([t, c, 0, 0] ++ (fourS r ++ l)))) + tt (fourS r ++ l)) := by
    unfold msgS
    rw [tt_append _ _ (by simp [twoS]), tt_append _ _ (by simp [twoS])]
  rw [hs, tt_two _ (by omega) (by omega)] at e2
  have e3 : tt [t, c, 0, 0] = tt [t, c] := by simp [tt]
  have e4 : tt (msgS t c r l) = tt ([t, c, 0, 0] ++ (fourS r ++ l)) + (65535 - norm (tt ([t, c, 0, 0] ++ (fourS r ++ l)))) := by rw [e2, e1, e3]; omega
  refine ⟨_, h0, e4, ?_⟩
  rw [sumW_tt hm, e4, norm_full _ h0]
theorem msg_get {t c r : Int} {l : List Int} (t0 : 0 ≤ t ∧ t ≤ 255) (c0 : 0 ≤ c ∧ c ≤ 255) (r0 : 0 ≤ r ∧ r ≤ 4294967295) (h : bytesB l = true) (hl : l.length ≤ 1000000) (k : Nat) : icmp_Get.f (k + 5) (msgS t c r l) = some (t, c, r, l, 0) := by
  have hlen := msg_len t c r l
  obtain ⟨_, _, _, hs⟩ := msg_sum (r := r) t0 c0 h
  rw [icmpget_f k _ (msg_bytes t0 c0 h) (by omega), if_neg (by omega), if_pos hs, show ((4 : Int)) = ((4 : Nat) : Int) from rfl, getS_four _ 4 4 (by omega)]
  have e1 : ((msgS t c r l).take (4 + 4)).drop 4 = fourS r := by simp [msgS, twoS, fourS]
  rw [e1, four_num r r0]
  rfl
theorem same_refl (t c r : Int) (l : List Int) : towroperef07_Same.f t c r l t c r l = some true := by simp [towroperef07_Same.f]
theorem isame_refl (t c r : Int) (l : List Int) : icmp_Same.f t c r l t c r l = some true := by simp [icmp_Same.f, bytes_Equal.f]
end Go.Proofs.Ytdphjljbdodonaa.PIcmp
