/- Plain law of layer 1: bytes filled up to a multiple. Conditions: each lemma's own. -/
import Derived.Test.YtcnodelfblpdiaaPOctx2
import Derived.Test.YtcnodelfblpdiaaPOctx4
import Derived.Test.YtcnodelfblpdiaaOctLOct
namespace Go.Proofs.Ytcnodelfblpdiaa.POct
set_option linter.unusedVariables false
set_option linter.unusedSimpArgs false
open Go.RowKit Go.Proofs.YtcnodelfblpdiaaW.PrintWords Go.Proofs.YtcnodelfblpdiaaW.PrintLast Go.Proofs.YtcnodelfblpdiaaW.PrintMore Go.Proofs.Ytcnodelfblpdiaa.Ar

/-- How many zeros are lacking. -/
def lack (n u : Int) : Nat := ((u - n % u) % u).toNat
def padS (l : List Int) (u : Int) : List Int × Int := if u < 1 ∨ u > 64 then ([], 1) else (l ++ List.replicate (lack l.length u) 0, 0)

theorem lack_le (n u : Int) (h : 1 ≤ u) : (lack n u : Int) < u := by
  unfold lack
  have := Int.emod_lt_of_pos (u - n % u) (by omega : 0 < u)
  have := Int.emod_nonneg (u - n % u) (by omega : u ≠ 0)
  omega
theorem lack_end (n u : Int) (h : 1 ≤ u) : (n + lack n u) % u = 0 := by
  unfold lack
  rw [Int.toNat_of_nonneg (Int.emod_nonneg _ (by omega)), Int.add_emod, Int.emod_emod_of_dvd _ (Int.dvd_refl u), ← Int.add_emod]
  have e : n % u + u * (n / u) = n := Int.emod_add_mul_ediv n u
  have e2 : n + (u - n % u) = u * (n / u + 1) := by rw [Int.mul_add, Int.mul_one]; omega
  rw [e2, Int.mul_emod_right]
theorem lack_mid (n u : Int) (j : Nat) (h : 1 ≤ u) (hj : j < lack n u) : (n + j) % u ≠ 0 := by
  have r0 := Int.emod_nonneg n (by omega : u ≠ 0)
  have r1 := Int.emod_lt_of_pos n (by omega : 0 < u)
  have hl : (lack n u : Int) = if n % u = 0 then 0 else u - n % u := by
    unfold lack
    rw [Int.toNat_of_nonneg (Int.emod_nonneg _ (by omega))]
    split
    · rename_i h0
      rw [h0, Int.sub_zero, Int.emod_self]
    · exact Int.emod_eq_of_lt (by omega) (by omega)
  have hr : n % u ≠ 0 := fun h0 => by rw [if_pos h0] at hl; omega
  rw [if_neg hr] at hl
  have e : (n + j) % u = (n % u + j) % u := by rw [Int.add_emod n j u, Int.add_emod (n % u) j u, Int.emod_emod_of_dvd _ (Int.dvd_refl u)]
  rw [e, Int.emod_eq_of_lt (by omega) (by omega)]
  omega

theorem rep_snoc (l : List Int) (j : Nat) : l ++ List.replicate j 0 ++ [0] = l ++ List.replicate (j + 1) 0 := by
  rw [List.append_assoc, ← List.replicate_succ']

theorem pad_loop (l : List Int) (u : Int) (hl : l.length ≤ 140737488351232) (u0 : 1 ≤ u) (u1 : u ≤ 64) : ∀ (d j k : Nat), j + d = lack l.length u → d < k →
    octet_Pad.l0 k u (l ++ List.replicate j 0) = some (l ++ List.replicate (lack l.length u) 0, 0) := by
  have hlt := lack_le l.length u u0
  intro d
  induction d with
  | zero =>
    intro j k hj hk
    obtain ⟨k, rfl⟩ : ∃ m, k = m + 1 := ⟨k - 1, by omega⟩
    obtain rfl : j = lack l.length u := by omega
    have e := lack_end l.length u u0
    simp only [octet_Pad.l0]
    rw [if_neg (by omega), if_pos (by simpa using e)]
  | succ d ih =>
    intro j k hj hk
    obtain ⟨k, rfl⟩ : ∃ m, k = m + 1 := ⟨k - 1, by omega⟩
    have e := lack_mid l.length u j u0 (by omega)
    simp only [octet_Pad.l0]
    rw [if_neg (by omega), if_neg (by simpa using e), if_pos (by simp; omega), rep_snoc]
    exact ih (j + 1) k (by omega) (by omega)

theorem pad_f (k : Nat) (l : List Int) (u : Int) (hl : l.length ≤ 140737488351232) : octet_Pad.f (k + 66) l u = some (padS l u) := by
  have hj : ∀ b : Bool, (b = true ↔ (u < 1 ∨ u > 64)) → octet_Pad.j0 (k + 66) l u b = some (padS l u) := by
    intro b hb
    simp only [octet_Pad.j0]
    unfold padS
    by_cases h : u < 1 ∨ u > 64
    · rw [if_pos (hb.2 h), if_pos h]
    · rw [if_neg (fun hh => h (hb.1 hh)), if_neg h, clone_f l hl]
      simp only [Option.bind_some]
      have := lack_le l.length u (by omega)
      have := pad_loop l u hl (by omega) (by omega) (lack l.length u) 0 (k + 65) (by omega) (by omega)
      rwa [List.replicate_zero, List.append_nil] at this
  unfold octet_Pad.f
  split
  · rename_i h
    exact hj true ⟨fun _ => .inl h, fun _ => rfl⟩
  · rename_i h
    exact hj _ ⟨fun hh => .inr (of_decide_eq_true hh), fun hh => decide_eq_true (hh.resolve_left h)⟩

theorem refpad_loop (l : List Int) (u : Int) (hl : l.length ≤ 140737488351232) (u0 : 1 ≤ u) (u1 : u ≤ 64) : ∀ (d j k : Nat), j + d = lack l.length u → d < k →
    towroperef01_Pad.l0 k l u (l ++ List.replicate j 0) j = some (l ++ List.replicate (lack l.length u) 0, 0) := by
  have hlt := lack_le l.length u u0
  have r0 := Int.emod_nonneg (l.length : Int) (by omega : u ≠ 0)
  have r1 := Int.emod_lt_of_pos (l.length : Int) (by omega : 0 < u)
  have hm : Int.tmod (wrap64 (u - (l.length : Int) % u)) u = (lack l.length u : Int) := by
    rw [w64 (by omega) (by omega), tm _ _ (by omega)]
    unfold lack
    rw [Int.toNat_of_nonneg (Int.emod_nonneg _ (by omega))]
  intro d
  induction d with
  | zero =>
    intro j k hj hk
    obtain ⟨k, rfl⟩ : ∃ m, k = m + 1 := ⟨k - 1, by omega⟩
    obtain rfl : j = lack l.length u := by omega
    simp only [towroperef01_Pad.l0]
    rw [if_neg (by omega), hm, if_neg (by omega)]
  | succ d ih =>
    intro j k hj hk
    obtain ⟨k, rfl⟩ : ∃ m, k = m + 1 := ⟨k - 1, by omega⟩
    simp only [towroperef01_Pad.l0]
    rw [if_neg (by omega), hm, if_pos (by omega), if_pos (by simp; omega), rep_snoc, w64 (by omega) (by omega)]
    exact ih (j + 1) k (by omega) (by omega)

theorem refpad_f (k : Nat) (l : List Int) (u : Int) (hl : l.length ≤ 140737488351232) : towroperef01_Pad.f (k + 66) l u = some (padS l u) := by
  have hj : ∀ b : Bool, (b = true ↔ (u < 1 ∨ u > 64)) → towroperef01_Pad.j0 (k + 66) l u b = some (padS l u) := by
    intro b hb
    simp only [towroperef01_Pad.j0]
    unfold padS
    by_cases h : u < 1 ∨ u > 64
    · rw [if_pos (hb.2 h), if_pos h]
    · rw [if_neg (fun hh => h (hb.1 hh)), if_neg h]
      simp only [Option.bind_some, List.nil_append, List.length_nil]
      rw [if_pos (by omega)]
      have := lack_le l.length u (by omega)
      have := refpad_loop l u hl (by omega) (by omega) (lack l.length u) 0 (k + 65) (by omega) (by omega)
      rw [List.replicate_zero, List.append_nil] at this
      exact this
  unfold towroperef01_Pad.f
  split
  · rename_i h
    exact hj true ⟨fun _ => .inl h, fun _ => rfl⟩
  · rename_i h
    exact hj _ ⟨fun hh => .inr (of_decide_eq_true hh), fun hh => decide_eq_true (hh.resolve_left h)⟩
end Go.Proofs.Ytcnodelfblpdiaa.POct
