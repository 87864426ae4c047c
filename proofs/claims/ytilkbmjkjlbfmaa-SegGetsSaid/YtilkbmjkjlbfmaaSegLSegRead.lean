/- Plain law of layer 9: what is read of options, by the program and by the reference. Conditions: each lemma's own. -/
import Derived.Test.YtilkbmjkjlbfmaaPSegx2
import Derived.Test.YtilkbmjkjlbfmaaPSegx4
import Derived.Test.YtilkbmjkjlbfmaaPSegx5
import Derived.Test.YtilkbmjkjlbfmaaHRead
import Derived.Test.YtilkbmjkjlbfmaaSegLView
namespace Go.Proofs.Ytilkbmjkjlbfmaa.PSeg
set_option linter.unusedVariables false
set_option linter.unusedSimpArgs false
open Go.RowKit Go.Proofs.Ytilkbmjkjlbfmaa.PSeg Go.Proofs.YtilkbmjkjlbfmaaW.PrintWords Go.Proofs.YtilkbmjkjlbfmaaW.PrintLast Go.Proofs.YtilkbmjkjlbfmaaW.PrintMore Go.Proofs.Ytilkbmjkjlbfmaa.Ar Go.Proofs.Ytilkbmjkjlbfmaa.HSum Go.Proofs.Ytilkbmjkjlbfmaa.HExt Go.Proofs.Ytilkbmjkjlbfmaa.HRead

def gOpt : List Int → Option (Int × Int) := fun l => octet_Get16.f 8 l 2
theorem gOpt_f (l : List Int) (hB : Bytes l) (h4 : 4 ≤ l.length) (hl : l.length ≤ 140737488351232) : gOpt l = some (256 * rd l 2 + rd l 3, 0) := by
  unfold gOpt
  rw [get16_f 3 l 2 hB hl (by omega) (by omega)]
  exact congrArg some (getS2 l 2 (by omega))
theorem rd_drop (l : List Int) (i j : Nat) : rd (l.drop i) (j : Int) = rd l ((i + j : Nat) : Int) := by
  unfold rd
  simp only [Int.toNat_natCast, List.getD_eq_getElem?_getD, List.getElem?_drop]
theorem rd_drop0 (l : List Int) (i : Nat) : rd (l.drop i) 0 = rd l (i : Int) := rd_drop l i 0
theorem rd_drop1 (l : List Int) (i : Nat) : rd (l.drop i) 1 = rd l ((i : Int) + 1) := rd_drop l i 1
theorem rd_drop2 (l : List Int) (i : Nat) : rd (l.drop i) 2 = rd l ((i : Int) + 2) := rd_drop l i 2
theorem rd_drop3 (l : List Int) (i : Nat) : rd (l.drop i) 3 = rd l ((i : Int) + 3) := rd_drop l i 3

theorem ref_j2 (l : List Int) (hB : Bytes l) (hl : l.length ≤ 70000) (k i n : Nat) (m s : Int) (hi : i < l.length) (h3 : rd l i = 3 → i + 2 < l.length) (hn : n ≤ 255) :
    towroperef09_Read.j2 (k + 1) l m s i n = towroperef09_Read.l0 k l m (if rd l i = 3 then 1 + mn (rd l ((i : Int) + 2)) 14 else s) ((i + n : Nat) : Int) := by
  have b2 := hB.at_ ((i : Int) + 2)
  simp only [towroperef09_Read.j2]
  rw [if_pos (by omega), if_pos (by omega), w64 (n := (i : Int) + n) (by omega) (by omega), show ((i : Int) + n) = ((i + n : Nat) : Int) by omega]
  by_cases h : rd l i = 3
  · have := h3 h
    rw [if_pos h, if_pos h, w64 (n := (i : Int) + 2) (by omega) (by omega), if_pos (by omega), if_pos (by omega), w64 (n := rd l ((i : Int) + 2)) (by omega) (by omega), w64 (n := 1 + rd l ((i : Int) + 2)) (by omega) (by omega)]
    unfold mn
    by_cases h14 : 14 < rd l ((i : Int) + 2)
    · rw [if_pos (by omega), if_pos h14]
      rfl
    · rw [if_neg (by omega), if_neg h14]
  · rw [if_neg h, if_neg h]
theorem ref_j1 (l : List Int) (hB : Bytes l) (hl : l.length ≤ 70000) (k i n : Nat) (m s : Int) (hi : i < l.length) (h2 : rd l i = 2 → i + 3 < l.length) (h3 : rd l i = 3 → i + 2 < l.length) (hn : n ≤ 255) :
    towroperef09_Read.j1 (k + 2) l m s i n false = towroperef09_Read.l0 k l (if rd l i = 2 then 256 * rd l ((i : Int) + 2) + rd l ((i : Int) + 3) else m) (if rd l i = 3 then 1 + mn (rd l ((i : Int) + 2)) 14 else s) ((i + n : Nat) : Int) := by
  have b2 := hB.at_ ((i : Int) + 2)
  have b3 := hB.at_ ((i : Int) + 3)
  simp only [towroperef09_Read.j1]
  rw [if_neg (by decide), if_pos (by omega), if_pos (by omega)]
  by_cases h : rd l i = 2
  · have := h2 h
    rw [if_pos h, if_pos h, w64 (n := (i : Int) + 2) (by omega) (by omega), if_pos (by omega), if_pos (by omega), w64 (n := (i : Int) + 3) (by omega) (by omega), if_pos (by omega), if_pos (by omega), w64 (n := rd l ((i : Int) + 2)) (by omega) (by omega), w64 (n := rd l ((i : Int) + 3)) (by omega) (by omega),
      w64 (n := 256 * rd l ((i : Int) + 2)) (by omega) (by omega), w64 (by omega) (by omega)]
    exact ref_j2 l hB hl k i n _ s hi h3 hn
  · rw [if_neg h, if_neg h]
    exact ref_j2 l hB hl k i n m s hi h3 hn
theorem ref_j1t (l : List Int) (k : Nat) (m s i n : Int) : towroperef09_Read.j1 (k + 1) l m s i n true = some (0, 0, 3) := by
  simp only [towroperef09_Read.j1]
  rw [if_pos trivial]
theorem readF_succ (g : List Int → Option (Int × Int)) (k : Nat) (xs : List Int) (m s : Int) : readF g (k + 1) xs m s =
    if 0 < xs.length then
      if rd xs 0 = 0 then some (m, s, 0)
      else if rd xs 0 = 1 then readF g k (xs.drop 1) m s
      else if xs.length < 2 then some (0, 0, 3)
      else if rd xs 1 < 2 then some (0, 0, 3)
      else if rd xs 1 > (xs.length : Int) then some (0, 0, 3)
      else if rd xs 0 = 2 then (if rd xs 1 = 4 then (g xs).bind fun p => readF g k (xs.drop 4) p.1 s else some (0, 0, 3))
      else if rd xs 0 = 3 then (if rd xs 1 = 3 then readF g k (xs.drop 3) m (1 + mn (rd xs 2) 14) else some (0, 0, 3))
      else readF g k (xs.drop (rd xs 1).toNat) m s
    else some (m, s, 0) := rfl
theorem read_both (l : List Int) (hb : bytesB l = true) (hl : l.length ≤ 70000) : ∀ (d i k : Nat) (m s : Int), i ≤ l.length → l.length ≤ i + d → 3 * d + 1 ≤ k →
    ∃ r, readF gOpt (d + 1) (l.drop i) m s = some r ∧ towroperef09_Read.l0 k l m s i = some r := by
  have hB : Bytes l := fun x hx => bytesB_mem hb hx
  intro d
  induction d with
  | zero =>
    intro i k m s hi hd hk
    obtain ⟨k, rfl⟩ : ∃ j, k = j + 1 := ⟨k - 1, by omega⟩
    refine ⟨(m, s, 0), ?_, ?_⟩
    · rw [readF_succ, if_neg (by rw [List.length_drop]; omega)]
    · simp only [towroperef09_Read.l0]
      rw [if_neg (by omega)]
  | succ d ih =>
    intro i k m s hi hd hk
    obtain ⟨k, rfl⟩ : ∃ j, k = j + 1 := ⟨k - 1, by omega⟩
    have hlen : (l.drop i).length = l.length - i := List.length_drop
    rw [readF_succ]
    simp only [towroperef09_Read.l0]
    obtain ⟨k, rfl⟩ : ∃ j, k = j + 2 := ⟨k - 2, by omega⟩
    by_cases h0 : i < l.length
    rotate_left
    · rw [if_neg (by omega), if_neg (by omega)]; exact ⟨_, rfl, rfl⟩
    have b0 := hB.at_ (i : Int)
    have b1 := hB.at_ ((i : Int) + 1)
    rw [if_pos (show 0 < (l.drop i).length by omega), if_pos (show (i : Int) < (l.length : Int) by omega), if_pos (show (0 : Int) ≤ (i : Int) by omega), rd_drop0, rd_drop1, rd_drop2, hlen]
    by_cases k0 : rd l (i : Int) = 0
    · rw [if_pos k0, if_pos k0]; exact ⟨_, rfl, rfl⟩
    rw [if_neg k0, if_neg k0]
    by_cases k1 : rd l (i : Int) = 1
    · rw [if_pos k1, if_pos k1, List.drop_drop, w64 (n := (i : Int) + 1) (by omega) (by omega), show ((i : Int) + 1) = ((i + 1 : Nat) : Int) by omega]
      exact ih (i + 1) (k + 2) m s (by omega) (by omega) (by omega)
    rw [if_neg k1, if_neg k1, w64 (n := (i : Int) + 1) (by omega) (by omega)]
    by_cases l2 : l.length - i < 2
    · rw [if_pos l2, if_pos (show (i : Int) + 1 ≥ (l.length : Int) by omega)]; exact ⟨_, rfl, rfl⟩
    rw [if_neg l2, if_neg (show ¬ ((i : Int) + 1 ≥ (l.length : Int)) by omega), if_pos (show (0 : Int) ≤ (i : Int) + 1 by omega), if_pos (show (i : Int) + 1 < (l.length : Int) by omega), w64 (n := rd l ((i : Int) + 1)) (by omega) (by omega), w64 (n := (l.length : Int) - i) (by omega) (by omega)]
    by_cases l3 : rd l ((i : Int) + 1) < 2
    · rw [if_pos l3, if_pos l3, ref_j1t]; exact ⟨_, rfl, rfl⟩
    rw [if_neg l3, if_neg l3]
    by_cases l4 : rd l ((i : Int) + 1) > ((l.length - i : Nat) : Int)
    · rw [if_pos l4, if_pos (show rd l ((i : Int) + 1) > (l.length : Int) - i by omega), ref_j1t]; exact ⟨_, rfl, rfl⟩
    rw [if_neg l4, if_neg (show ¬ rd l ((i : Int) + 1) > (l.length : Int) - i by omega)]
    obtain ⟨n, hn⟩ : ∃ n : Nat, rd l ((i : Int) + 1) = n := ⟨(rd l ((i : Int) + 1)).toNat, by omega⟩
    rw [hn] at l3 l4 b1 ⊢
    by_cases k2 : rd l (i : Int) = 2
    · rw [if_pos k2, if_pos k2]
      by_cases n4 : (n : Int) = 4
      · obtain rfl : n = 4 := by omega
        rw [if_pos n4, if_pos n4, if_neg (show ¬ rd l (i : Int) = 3 by omega), gOpt_f _ (fun x hx => hB x (List.mem_of_mem_drop hx)) (by omega) (by omega), Option.bind_some, rd_drop2, rd_drop3, List.drop_drop, ref_j1 l hB hl k i 4 m s h0 (by omega) (by omega) (by omega), if_pos k2, if_neg (show ¬ rd l (i : Int) = 3 by omega)]
        exact ih (i + 4) k _ s (by omega) (by omega) (by omega)
      · rw [if_neg n4, if_neg n4, ref_j1t]; exact ⟨_, rfl, rfl⟩
    rw [if_neg k2, if_neg k2]
    by_cases k3 : rd l (i : Int) = 3
    · rw [if_pos k3, if_pos k3]
      by_cases n3 : (n : Int) = 3
      · obtain rfl : n = 3 := by omega
        rw [if_pos n3, show (((3 : Nat) : Int) != 3) = false from rfl, List.drop_drop, ref_j1 l hB hl k i 3 m s h0 (by omega) (by omega) (by omega), if_neg k2, if_pos k3]
        exact ih (i + 3) k m _ (by omega) (by omega) (by omega)
      · rw [if_neg n3, show ((n : Int) != 3) = true by simpa using n3, ref_j1t]; exact ⟨_, rfl, rfl⟩
    rw [if_neg k3, if_neg k3, Int.toNat_natCast, List.drop_drop, ref_j1 l hB hl k i n m s h0 (by omega) (by omega) (by omega), if_neg k2, if_neg k3]
    exact ih (i + n) k m s (by omega) (by omega) (by omega)
/-- What is read of bytes, by both. -/
theorem read_f (k : Nat) (l : List Int) (hb : bytesB l = true) (hl : l.length ≤ 70000) (hk : 3 * l.length + 1 ≤ k) : ∃ r, seg_Read.f l = some r ∧ towroperef09_Read.f k l = some r := by
  obtain ⟨r, h1, h2⟩ := read_both l hb hl l.length 0 k 0 0 (by omega) (by omega) hk
  refine ⟨r, ?_, h2⟩
  unfold seg_Read.f
  rw [if_pos ⟨hb, by omega⟩]
  exact h1
/-- Options as bytes. -/
def optB (m s : Int) : List Int := (if m = 0 then [] else [2, 4] ++ twoS m) ++ (if s = 0 then [] else [1, 3, 3, s - 1])
theorem options_f (k : Nat) (a0 a1 a2 a3 a4 a5 m s : Int) (d : List Int) (m0 : 0 ≤ m ∧ m ≤ 65535) (s0 : 0 ≤ s ∧ s ≤ 15) : seg_Options.f (k + 3) a0 a1 a2 a3 a4 a5 m s d = some (optB m s) := by
  have e : s ≠ 0 → wrap64 (s - 1) % 256 = s - 1 := fun h => by rw [w64 (by omega) (by omega)]; omega
  unfold seg_Options.f optB
  by_cases hm : m = 0
  · rw [if_pos hm, if_pos hm]
    by_cases hs : s = 0
    · rw [if_pos hs, if_pos hs]; rfl
    · rw [if_neg hs, if_neg hs, Option.bind_some, if_pos (by simp only [List.length_cons, List.length_nil]; omega), e hs]
  · rw [if_neg hm, if_neg hm, put16_f k _ m (by simp only [List.length_cons, List.length_nil]; omega), Option.bind_some]
    by_cases hs : s = 0
    · rw [if_pos hs, if_pos hs, List.append_nil]
    · rw [if_neg hs, if_neg hs, Option.bind_some, if_pos (by simp only [twoS, List.length_append, List.length_cons, List.length_nil]; omega), e hs]
theorem optB_bytes (m s : Int) (s0 : 0 ≤ s ∧ s ≤ 15) : bytesB (optB m s) = true := by
  unfold optB
  refine bytesB_append ?_ ?_
  · split
    · rfl
    · exact bytesB_append (by rfl) (twoS_bytes m)
  · split
    · rfl
    · exact bytesB_of fun x hx => by simp only [List.mem_cons, List.not_mem_nil, or_false] at hx; omega
theorem optB_len (m s : Int) : (optB m s).length ≤ 8 ∧ (optB m s).length % 4 = 0 := by
  unfold optB twoS
  split <;> split <;> simp
theorem tail_read (k : Nat) (m s : Int) (s0 : 0 ≤ s ∧ s ≤ 15) : readF gOpt (k + 3) (if s = 0 then [] else [1, 3, 3, s - 1]) m 0 = some (m, s, 0) := by
  by_cases hs : s = 0
  · rw [if_pos hs, hs]; rfl
  · rw [if_neg hs]
    have e : 1 + mn (s - 1) 14 = s := by unfold mn; split <;> omega
    show readF gOpt (k + 1) [] m (1 + mn (s - 1) 14) = _
    rw [e]
    rfl
theorem read_opt (m s : Int) (m0 : 0 ≤ m ∧ m ≤ 65535) (s0 : 0 ≤ s ∧ s ≤ 15) : seg_Read.f (optB m s) = some (m, s, 0) := by
  have hb := optB_bytes m s s0
  have hl := optB_len m s
  unfold seg_Read.f
  rw [if_pos ⟨hb, by omega⟩]
  show readF gOpt _ _ _ _ = _
  by_cases hm : m = 0
  · have e : optB m s = (if s = 0 then [] else [1, 3, 3, s - 1]) := by unfold optB; rw [if_pos hm]; rfl
    rw [e, hm]
    by_cases hs : s = 0
    · rw [if_pos hs, hs]; rfl
    · have := tail_read 2 0 s s0
      rw [if_neg hs] at this ⊢
      exact this
  · have e : optB m s = [2, 4, m % 65536 / 256, m % 256] ++ (if s = 0 then [] else [1, 3, 3, s - 1]) := by unfold optB twoS; rw [if_neg hm]; rfl
    have hB : Bytes (optB m s) := fun x hx => bytesB_mem hb hx
    have h4 : 4 ≤ (optB m s).length := by rw [e]; simp only [List.length_append, List.length_cons, List.length_nil]; omega
    have hg := gOpt_f _ hB h4 (by omega)
    obtain ⟨q, hq⟩ : ∃ q, (optB m s).length = q + 4 := ⟨(optB m s).length - 4, by omega⟩
    rw [hq, show q + 4 + 1 = q + 1 + 3 + 1 by omega]
    rw [e] at hg ⊢
    show (gOpt ([2, 4, m % 65536 / 256, m % 256] ++ (if s = 0 then [] else [1, 3, 3, s - 1]))).bind (fun p => readF gOpt (q + 1 + 3) (if s = 0 then [] else [1, 3, 3, s - 1]) p.1 0) = _
    rw [hg, Option.bind_some]
    have e2 : 256 * rd ([2, 4, m % 65536 / 256, m % 256] ++ (if s = 0 then [] else [1, 3, 3, s - 1])) 2 + rd ([2, 4, m % 65536 / 256, m % 256] ++ (if s = 0 then [] else [1, 3, 3, s - 1])) 3 = m := by
      show 256 * (m % 65536 / 256) + m % 256 = m
      omega
    show readF gOpt (q + 1 + 3) _ (256 * rd _ 2 + rd _ 3) 0 = _
    rw [e2]
    exact tail_read (q + 1) m s s0
end Go.Proofs.Ytilkbmjkjlbfmaa.PSeg
