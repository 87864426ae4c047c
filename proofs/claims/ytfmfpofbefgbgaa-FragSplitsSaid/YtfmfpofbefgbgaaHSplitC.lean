/- Plain law: the reference's options carried, in frag's own group. Conditions: each lemma's own. -/
import Derived.Test.YtfmfpofbefgbgaaHSplit5
import Derived.Test.YtfmfpofbefgbgaaPFrbx4
namespace Go.Proofs.Ytfmfpofbefgbgaa.HSplitC
open Go.RowKit Go.Proofs.Ytfmfpofbefgbgaa.PFrb Go.Proofs.YtfmfpofbefgbgaaW.PrintWords Go.Proofs.YtfmfpofbefgbgaaW.PrintLast Go.Proofs.Ytfmfpofbefgbgaa.HCar Go.Proofs.Ytfmfpofbefgbgaa.HSplit
set_option linter.unusedVariables false
set_option linter.unusedSimpArgs false
theorem w64_ {n : Int} (h0 : -9223372036854775808 ≤ n) (h1 : n ≤ 9223372036854775807) : wrap64 n = n := by unfold wrap64; omega
theorem l1_pad : ∀ (k : Nat) (l : List Int), towroperef11_Carried.l1 k l = octet_Pad.l0 k 4 l
  | 0, l => by simp only [towroperef11_Carried.l1, octet_Pad.l0]
  | k + 1, l => by
    simp only [towroperef11_Carried.l1, octet_Pad.l0]
    rw [if_neg (show ¬ ((4 : Int) = 0) by decide), l1_pad k]
theorem pad_go_ : ∀ (d : Nat) (l : List Int), (l.length + d) % 4 = 0 → l.length + d ≤ 100000 → ∃ p : List Int, (∀ k, octet_Pad.l0 (k + d + 1) 4 l = some (p, 0)) ∧ (p.length : Int) % 4 = 0
  | 0, l, h, hl => ⟨l, fun k => by
      simp only [Nat.add_zero, octet_Pad.l0]
      rw [if_neg (show ¬ ((4 : Int) = 0) by decide), if_pos (by omega)], by omega⟩
  | d + 1, l, h, hl => by
    by_cases h4 : (l.length : Int) % 4 = 0
    · refine ⟨l, fun k => ?_, h4⟩
      simp only [octet_Pad.l0]
      rw [if_neg (show ¬ ((4 : Int) = 0) by decide), if_pos h4]
    · obtain ⟨p, hp, e⟩ := pad_go_ d (l ++ [0]) (by rw [List.length_append]; simp; omega) (by rw [List.length_append]; simp; omega)
      refine ⟨p, fun k => ?_, e⟩
      rw [show k + (d + 1) + 1 = (k + d + 1) + 1 from by omega]
      simp only [octet_Pad.l0]
      rw [if_neg (show ¬ ((4 : Int) = 0) by decide), if_neg h4, if_pos (by omega)]
      exact hp k
theorem pad_all (l : List Int) (hl : l.length ≤ 90000) : ∃ p : List Int, (∀ k, octet_Pad.l0 (k + 5) 4 l = some (p, 0)) ∧ (p.length : Int) % 4 = 0 := by
  obtain ⟨p, hp, e⟩ := pad_go_ ((4 - l.length % 4) % 4) l (by omega) (by omega)
  refine ⟨p, fun k => ?_, e⟩
  have := hp (k + 4 - (4 - l.length % 4) % 4)
  rwa [show k + 4 - (4 - l.length % 4) % 4 + (4 - l.length % 4) % 4 + 1 = k + 5 from by omega] at this
theorem pad_f (l : List Int) (hl : l.length ≤ 90000) : octet_Pad.f 70 l 4 = octet_Pad.l0 69 4 l := by
  unfold octet_Pad.f
  rw [if_neg (by decide)]
  have e : decide ((4 : Int) > 64) = false := by decide
  rw [e]
  simp only [octet_Pad.j0]
  unfold slices_Clone_byte_byte.f
  rw [if_neg (by simp), if_pos (by omega)]
  rfl
/-- What both answer behind the options read. -/
def fin (c : Option (List Int)) (r : List Int × Int) : Prop :=
  match c with
  | none => r = ([], 3)
  | some l => l.length ≤ 40 ∧ ∀ k, octet_Pad.l0 (k + 5) 4 l = some r
theorem ref_go (b : List Int) (hb : HCar.bytes b = true) (h40 : b.length ≤ 40) : ∀ (m i : Nat) (out : List Int), b.length - i = m → i ≤ b.length → out.length ≤ i →
    ∃ (K : Nat) (r : List Int × Int), fin (car (b.drop i) out) r ∧ ∀ k, towroperef11_Carried.l0 (k + K) b out (i : Int) = some r := by
  intro m
  induction m using Nat.strongRecOn with
  | ind m ih =>
  intro i out hm hi ho
  by_cases hlt : i < b.length
  · obtain ⟨x, hx⟩ : ∃ x, b[i] = x := ⟨_, rfl⟩
    have hd : b.drop i = x :: b.drop (i + 1) := by rw [List.drop_eq_getElem_cons hlt, hx]
    have hrd : rd b (i : Int) = x := by unfold rd; simp [List.getD_eq_getElem?_getD, hx, hlt]
    have c1 : (i : Int) < (b.length : Int) := by omega
    have c2 : (0 : Int) ≤ (i : Int) := by omega
    have w1 : wrap64 ((i : Int) + 1) = ((i + 1 : Nat) : Int) := by rw [w64_ (by omega) (by omega)]; omega
    by_cases x0 : x = 0
    · obtain ⟨p, hp, -⟩ := pad_all out (by omega)
      refine ⟨7, (p, 0), ?_, fun k => ?_⟩
      · rw [hd, x0, car_end]
        exact ⟨by omega, hp⟩
      · simp only [towroperef11_Carried.l0]
        rw [if_pos c1, if_pos c2, hrd, x0]
        simp only [towroperef11_Carried.j1, if_true, if_false, Bool.false_eq_true]
        rw [l1_pad]
        exact hp k
    · have b0 : (x != 0) = true := bne_iff_ne.2 x0
      by_cases x1 : x = 1
      · obtain ⟨K, r, hf, hk⟩ := ih (b.length - (i + 1)) (by omega) (i + 1) out rfl (by omega) (by omega)
        refine ⟨K + 2, r, ?_, fun k => ?_⟩
        · rw [hd, x1, car_pad]
          exact hf
        · rw [show k + (K + 2) = k + K + 2 from by omega]
          simp only [towroperef11_Carried.l0]
          rw [if_pos c1, if_pos c2, hrd, b0]
          simp only [towroperef11_Carried.j1, if_true, if_false, Bool.false_eq_true]
          rw [if_pos c2, if_pos c1, hrd, if_pos x1, w1]
          exact hk k
      · obtain ⟨y, hy⟩ : ∃ y, (b.drop (i + 1)).getD 0 0 = y := ⟨_, rfl⟩
        have hyr : rd b ((i + 1 : Nat) : Int) = y := by
          unfold rd
          rw [Int.toNat_natCast, ← hy]
          simp [List.getD_eq_getElem?_getD, List.getElem?_drop]
        have hlen : (b.drop (i + 1)).length = b.length - (i + 1) := List.length_drop ..
        have bad : ∀ hbad : ¬ (2 ≤ (b.drop (i + 1)).length + 1 ∧ 2 ≤ y ∧ y ≤ ((b.drop (i + 1)).length : Int) + 1), fin (car (b.drop i) out) ([], 3) := by
          intro hbad
          rw [hd, car_bad x _ _ x0 x1 (by rw [hy]; exact hbad)]
          rfl
        by_cases h2 : i + 1 < b.length
        · have c3 : ¬ ((i + 1 : Nat) : Int) ≥ (b.length : Int) := by omega
          have c4 : (0 : Int) ≤ ((i + 1 : Nat) : Int) := by omega
          have c5 : ((i + 1 : Nat) : Int) < (b.length : Int) := by omega
          have hyb : 0 ≤ y ∧ y ≤ 255 := by
            refine HCar.bytes_get hb ?_
            rw [← hyr]
            unfold rd
            rw [Int.toNat_natCast, show b.getD (i + 1) 0 = b[i + 1] from by simp [List.getD_eq_getElem?_getD, h2]]
            exact List.getElem_mem _
          by_cases h3 : y < 2
          · refine ⟨4, ([], 3), bad (by omega), fun k => ?_⟩
            simp only [towroperef11_Carried.l0]
            rw [if_pos c1, if_pos c2, hrd, b0]
            simp only [towroperef11_Carried.j1, if_true, if_false, Bool.false_eq_true]
            rw [if_pos c2, if_pos c1, hrd, if_neg x1, w1, if_neg c3, if_pos c4, if_pos c5, hyr, if_pos h3]
            simp only [towroperef11_Carried.j2, if_true, if_false, Bool.false_eq_true]
          · have wy : wrap64 y = y := w64_ (by omega) (by omega)
            have wl : wrap64 ((b.length : Int) - (i : Int)) = (b.length : Int) - (i : Int) := w64_ (by omega) (by omega)
            by_cases h4 : y > (b.length : Int) - (i : Int)
            · refine ⟨4, ([], 3), bad (by omega), fun k => ?_⟩
              simp only [towroperef11_Carried.l0]
              rw [if_pos c1, if_pos c2, hrd, b0]
              simp only [towroperef11_Carried.j1, if_true, if_false, Bool.false_eq_true]
              rw [if_pos c2, if_pos c1, hrd, if_neg x1, w1, if_neg c3, if_pos c4, if_pos c5, hyr, if_neg h3, wy, wl, decide_eq_true h4]
              simp only [towroperef11_Carried.j2, if_true, if_false, Bool.false_eq_true]
            · obtain ⟨n, hn⟩ : ∃ n : Nat, y.toNat = n := ⟨_, rfl⟩
              have hyn : y = (n : Int) := by omega
              have ws : wrap64 ((i : Int) + y) = ((i + n : Nat) : Int) := by rw [w64_ (by omega) (by omega)]; omega
              have hdr : (x :: b.drop (i + 1)).drop n = b.drop (i + n) := by rw [← hd, List.drop_drop]
              have htk : (x :: b.drop (i + 1)).take n = (b.take (i + n)).drop i := by rw [← hd, List.take_drop]
              have hcm := car_more x (b.drop (i + 1)) out x0 x1 (by rw [hy]; omega)
              rw [hy, hn, hdr, htk] at hcm
              have htl : ((b.take (i + n)).drop i).length = n := by rw [List.length_drop, List.length_take]; omega
              obtain ⟨K, r, hf, hk⟩ := ih (b.length - (i + n)) (by omega) (i + n) (if 128 ≤ x then out ++ (b.take (i + n)).drop i else out) rfl (by omega) (by
                split
                · rw [List.length_append, htl]; omega
                · omega)
              refine ⟨K + 3, r, ?_, fun k => ?_⟩
              · rw [hd, hcm]
                exact hf
              · rw [show k + (K + 3) = k + K + 3 from by omega]
                simp only [towroperef11_Carried.l0]
                rw [if_pos c1, if_pos c2, hrd, b0]
                simp only [towroperef11_Carried.j1, if_true, if_false, Bool.false_eq_true]
                rw [if_pos c2, if_pos c1, hrd, if_neg x1, w1, if_neg c3, if_pos c4, if_pos c5, hyr, if_neg h3, wy, wl, decide_eq_false h4]
                simp only [towroperef11_Carried.j2, if_true, if_false, Bool.false_eq_true]
                rw [w1, if_pos c4, if_pos c5, if_pos c2, if_pos c1, hrd, hyr, wy, ws]
                have hk' := hk k
                by_cases h8 : 128 ≤ x
                · rw [if_pos h8] at hk'
                  rw [if_pos h8, if_pos (by omega), if_pos (by omega), Int.toNat_natCast, Int.toNat_natCast, if_pos (by rw [htl]; omega)]
                  exact hk'
                · rw [if_neg h8] at hk'
                  rw [if_neg h8]
                  exact hk'
        · refine ⟨4, ([], 3), bad (by omega), fun k => ?_⟩
          simp only [towroperef11_Carried.l0]
          rw [if_pos c1, if_pos c2, hrd, b0]
          simp only [towroperef11_Carried.j1, if_true, if_false, Bool.false_eq_true]
          rw [if_pos c2, if_pos c1, hrd, if_neg x1, w1, if_pos (by omega)]
          simp only [towroperef11_Carried.j2, if_true, if_false, Bool.false_eq_true]
  · obtain ⟨p, hp, -⟩ := pad_all out (by omega)
    refine ⟨7, (p, 0), ?_, fun k => ?_⟩
    · rw [List.drop_eq_nil_of_le (by omega), car_nil]
      exact ⟨by omega, hp⟩
    · simp only [towroperef11_Carried.l0]
      rw [if_neg (by omega)]
      simp only [towroperef11_Carried.j1, if_true, if_false, Bool.false_eq_true]
      rw [l1_pad]
      exact hp k
theorem both (b : List Int) (hb : HCar.bytes b = true) : ∃ (k : Nat) (r : List Int × Int), (∀ j, frag_Carried.f j b = some r) ∧ towroperef11_Carried.f k b = some r ∧ (r.1.length : Int) % 4 = 0 := by
  unfold frag_Carried.f carF towroperef11_Carried.f
  simp only [hb, if_true]
  by_cases h : 40 < b.length
  · refine ⟨0, ([], 1), fun j => ?_, ?_, rfl⟩
    · rw [if_pos h]
    · rw [if_pos (by omega)]
  · obtain ⟨K, r, hf, hk⟩ := ref_go b hb (by omega) _ 0 [] rfl (by omega) (by simp)
    rw [List.drop_zero] at hf
    have hk0 := hk 0
    rw [Nat.zero_add] at hk0
    refine ⟨K, r, fun j => ?_, ?_, ?_⟩
    · rw [if_neg h]
      cases hc : car b [] with
      | none => rw [hc] at hf; rw [show r = ([], 3) from hf]
      | some l =>
        rw [hc] at hf
        obtain ⟨hl, h5⟩ := hf
        have h64 := h5 64
        have e := pad_all l (by omega)
        obtain ⟨p, hp, -⟩ := e
        have hpr : r = (p, 0) := Option.some.inj ((h5 0).symm.trans (hp 0))
        show (octet_Pad.f 70 l 4).map (fun p => (p.1, (0 : Int))) = some r
        rw [pad_f l (by omega), h64, hpr]
        rfl
    · rw [if_neg (by omega)]
      exact hk0
    · cases hc : car b [] with
      | none => rw [hc] at hf; rw [show r = ([], 3) from hf]; rfl
      | some l =>
        rw [hc] at hf
        obtain ⟨hl, h5⟩ := hf
        obtain ⟨p, hp, e⟩ := pad_all l (by omega)
        rw [show r = (p, 0) from Option.some.inj ((h5 0).symm.trans (hp 0))]
        exact e
theorem carR (b : List Int) (hb : HCar.bytes b = true) : ∃ K, ∀ k, towroperef11_Carried.f (k + K) b = some (carT b) := by
  obtain ⟨K, r, h1, h2, -⟩ := both b hb
  have e : carT b = r := by
    unfold carT
    have := h1 1
    unfold frag_Carried.f at this
    rw [this]
    rfl
  refine ⟨K, fun k => ?_⟩
  rw [e]
  induction k with
  | zero => rw [Nat.zero_add]; exact h2
  | succ k ih => rw [show k + 1 + K = k + K + 1 from by omega]; exact towroperef11_Carried.mono b (k + K) r ih
end Go.Proofs.Ytfmfpofbefgbgaa.HSplitC
