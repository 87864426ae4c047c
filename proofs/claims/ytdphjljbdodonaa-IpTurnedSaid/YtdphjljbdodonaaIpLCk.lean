/- Plain law: a row with its check sum in it, and with one byte turned. Conditions: each lemma's own. -/

import Derived.Test.YtdphjljbdodonaaIpLPut
namespace Go.Proofs.Ytdphjljbdodonaa.PIp
set_option linter.unusedVariables false
set_option linter.unusedSimpArgs false
open Go.RowKit Go.Proofs.Ytdphjljbdodonaa.PIp Go.Proofs.YtdphjljbdodonaaW.PrintWords Go.Proofs.YtdphjljbdodonaaW.PrintLast Go.Proofs.YtdphjljbdodonaaW.PrintMore Go.Proofs.Ytdphjljbdodonaa.Ar Go.Proofs.Ytdphjljbdodonaa.HSum Go.Proofs.Ytdphjljbdodonaa.HExt

theorem ck_sum (A Z : List Int) (ha : bytesB A = true) (hz : bytesB Z = true) (hA : A.length % 2 = 0) (n : Int) (hn : n = 65535 - sumW (A ++ ([0, 0] ++ Z))) :
    ∃ u, 0 ≤ u ∧ tt (A ++ (twoS n ++ Z)) = u + (65535 - norm u) ∧ sumW (A ++ (twoS n ++ Z)) = 65535 := by
  have h00 : bytesB [0, 0] = true := by rfl
  have hb : bytesB (A ++ ([0, 0] ++ Z)) = true := bytesB_append ha (bytesB_append h00 hz)
  have hm : bytesB (A ++ (twoS n ++ Z)) = true := bytesB_append ha (bytesB_append (twoS_bytes _) hz)
  have hs := sumW_tt hb
  have h0 := tt_nonneg hb
  have hv := norm_bd _ h0
  have e1 : tt (A ++ ([0, 0] ++ Z)) = tt A + tt Z := by
    rw [tt_append _ _ hA, tt_append _ _ (by simp)]
    simp [tt]
  have e2 : tt (A ++ (twoS n ++ Z)) = tt A + (n + tt Z) := by
    rw [tt_append _ _ hA, tt_append _ _ (by simp [twoS]), tt_two _ (by omega) (by omega)]
  have e4 : tt (A ++ (twoS n ++ Z)) = tt (A ++ ([0, 0] ++ Z)) + (65535 - norm (tt (A ++ ([0, 0] ++ Z)))) := by rw [e2]; rw [hs] at hn; omega
  refine ⟨_, h0, e4, ?_⟩
  rw [sumW_tt hm, e4, norm_full _ h0]
theorem tt_one : ∀ (j : Nat) (l : List Int) (x : Int), j < l.length → ∃ m : Int, (m = 1 ∨ m = 256) ∧ tt (l.set j x) = tt l + m * (x - rd l j)
  | 0, [y], x, _ => ⟨256, .inr rfl, by simp [tt, rd]; omega⟩
  | 0, y :: z :: t, x, _ => ⟨256, .inr rfl, by simp [tt, rd]; omega⟩
  | 1, y :: z :: t, x, _ => ⟨1, .inl rfl, by simp [tt, rd]; omega⟩
  | j + 2, y :: z :: t, x, h => by
    obtain ⟨m, hm, e⟩ := tt_one j t x (by simp only [List.length_cons] at h; omega)
    refine ⟨m, hm, ?_⟩
    rw [rd_two]
    simp only [List.set_cons_succ, tt]
    rw [e]
    omega
  | j + 1, [_], _, h => by simp at h
theorem norm_other (t d m : Int) (h0 : 0 ≤ t + m * d) (hm : m = 1 ∨ m = 256) (hd : d ≠ 0) (d0 : -255 ≤ d) (d1 : d ≤ 255) (ht : ∃ u, 0 ≤ u ∧ t = u + (65535 - norm u)) : norm (t + m * d) ≠ 65535 := by
  obtain ⟨u, u0, rfl⟩ := ht
  have hu := norm_mod u
  have hv := norm_mod (u + (65535 - norm u) + m * d)
  intro he
  rw [he] at hv
  rcases hm with rfl | rfl <;> omega
theorem xor_u8 (x y : Int) (x0 : 0 ≤ x ∧ x ≤ 255) (y0 : 0 ≤ y ∧ y ≤ 255) (hy : y ≠ 0) : (0 ≤ Go.bits .xor .u8 x y ∧ Go.bits .xor .u8 x y ≤ 255) ∧ Go.bits .xor .u8 x y ≠ x := by
  have hlt := (BitVec.ofInt 8 x ^^^ BitVec.ofInt 8 y).isLt
  have e : Go.bits .xor .u8 x y = (((BitVec.ofInt 8 x ^^^ BitVec.ofInt 8 y).toNat : Nat) : Int) := by
    show IntKind.u8.wrap (((BitVec.ofInt 8 x ^^^ BitVec.ofInt 8 y).toNat : Nat) : Int) = _
    generalize (BitVec.ofInt 8 x ^^^ BitVec.ofInt 8 y).toNat = z at *
    simp [IntKind.wrap, IntKind.bits, IntKind.signed]
    omega
  rw [e]
  refine ⟨by omega, fun h => hy ?_⟩
  have h2 : BitVec.ofInt 8 x ^^^ BitVec.ofInt 8 y = BitVec.ofInt 8 x := by
    apply BitVec.eq_of_toNat_eq
    have e2 : (BitVec.ofInt 8 x).toNat = (x % 256).toNat := by rw [BitVec.toNat_ofInt]; rfl
    rw [e2]
    omega
  have h3 : BitVec.ofInt 8 y = 0#8 := by
    have := congrArg (fun z => BitVec.ofInt 8 x ^^^ z) h2
    simpa [← BitVec.xor_assoc] using this
  have h4 := congrArg BitVec.toNat h3
  rw [BitVec.toNat_ofInt] at h4
  have h5 : (y % ((2 ^ 8 : Nat) : Int)).toNat = 0 := h4
  have h6 : (y % 256).toNat = 0 := h5
  omega
theorem turned_bytes {l : List Int} (h : bytesB l = true) (j : Nat) {x : Int} (x0 : 0 ≤ x ∧ x ≤ 255) : bytesB (l.set j x) = true := bytesB_of fun y hy => by
  rcases List.mem_or_eq_of_mem_set hy with hy | rfl
  · exact bytesB_mem h hy
  · exact x0
theorem turned_sum {l : List Int} (h : bytesB l = true) (ht : ∃ u, 0 ≤ u ∧ tt l = u + (65535 - norm u)) (j : Nat) (hj : j < l.length) (x : Int) (x0 : 0 ≤ x ∧ x ≤ 255) (hx : x ≠ rd l j) (hr : 0 ≤ rd l j ∧ rd l j ≤ 255) : sumW (l.set j x) ≠ 65535 := by
  have hn := turned_bytes h j x0
  obtain ⟨m, hmm, e⟩ := tt_one j l x hj
  have h0 := tt_nonneg hn
  rw [sumW_tt hn, e]
  rw [e] at h0
  exact norm_other (tt l) (x - rd l j) m h0 hmm (by omega) (by omega) (by omega) ht
end Go.Proofs.Ytdphjljbdodonaa.PIp
