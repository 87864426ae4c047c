/- The reference's Number: every whole number of 64 bits as decimal digits. Conditions: each theorem's own. -/
import Derived.Test.YtcebnaknodghcaaDoorHExt
import Derived.Test.YtcebnaknodghcaaDoorHItoa
import Derived.Outline
import Derived.WalkSpells
import Derived.WalkLawsBesides
namespace Go.Proofs.YtcebnaknodghcaaDoor.HNumber
open Go.RowKit Go.Proofs.YtcebnaknodghcaaDoorW.PrintWords Go.Proofs.YtcebnaknodghcaaDoorW.PrintLast Go.Proofs.YtcebnaknodghcaaDoorW.PrintMore
set_option linter.unusedVariables false
set_option linter.unusedSimpArgs false
def txt (n : Int) : ByteArray := ⟨(Lib.itoa n).toArray⟩
def dig (d : Nat) : ByteArray := ⟨#[UInt8.ofNat (48 + d)]⟩
theorem dig_cut : ∀ d : Nat, d < 10 → (⟨#[48, 49, 50, 51, 52, 53, 54, 55, 56, 57]⟩ : ByteArray).extract d (d + 1) = dig d := by
  intro d hd
  match d, hd with
  | 0, _ => rfl
  | 1, _ => rfl
  | 2, _ => rfl
  | 3, _ => rfl
  | 4, _ => rfl
  | 5, _ => rfl
  | 6, _ => rfl
  | 7, _ => rfl
  | 8, _ => rfl
  | 9, _ => rfl
theorem dec_small (d : Nat) (h : d < 10) : Lib.decDigits d = [UInt8.ofNat (48 + d)] := by rw [Lib.decDigits, dif_pos h]
theorem dec_step (n : Nat) (h : ¬ n < 10) : Lib.decDigits n = Lib.decDigits (n / 10) ++ [UInt8.ofNat (48 + n % 10)] := by rw [Lib.decDigits, dif_neg h]
theorem dec_len : ∀ k n : Nat, 0 < k → n < 10 ^ k → (Lib.decDigits n).length ≤ k
  | 0, _, h, _ => by omega
  | k + 1, n, _, h => by
    by_cases hn : n < 10
    · rw [dec_small n hn]; simp
    · rw [dec_step n hn, List.length_append]
      have hk : 0 < k := by
        rcases Nat.eq_zero_or_pos k with rfl | hk
        · simp at h; omega
        · exact hk
      have := dec_len k (n / 10) hk (by rw [Nat.pow_succ] at h; omega)
      simp only [List.length_cons, List.length_nil]
      omega
theorem txt_size (n : Int) (h0 : -9223372036854775808 ≤ n) (h1 : n ≤ 9223372036854775807) : (txt n).size ≤ 30 := by
  show (Lib.itoa n).toArray.size ≤ 30
  unfold Lib.itoa
  split
  · have := dec_len 20 n.natAbs (by omega) (by omega)
    simp only [List.size_toArray, List.length_cons]
    omega
  · have := dec_len 20 n.toNat (by omega) (by omega)
    simp only [List.size_toArray]
    omega
theorem app_txt (l m : List UInt8) : (⟨l.toArray⟩ : ByteArray) ++ ⟨m.toArray⟩ = ⟨(l ++ m).toArray⟩ := by
  apply ByteArray.ext
  simp
theorem txt_pos (n : Nat) (h : n < 10) : txt n = dig n := by
  unfold txt Lib.itoa dig
  rw [if_neg (by omega), Int.toNat_natCast, dec_small n h]
theorem txt_step (n : Nat) (h : ¬ n < 10) : txt n = txt ((n / 10 : Nat) : Int) ++ dig (n % 10) := by
  unfold txt Lib.itoa dig
  rw [if_neg (by omega), if_neg (by omega), Int.toNat_natCast, Int.toNat_natCast, dec_step n h, ← app_txt]
theorem txt_neg (n : Nat) (h0 : 0 < n) (h : n < 10) : txt (-(n : Int)) = ⟨#[45]⟩ ++ dig n := by
  unfold txt Lib.itoa dig
  rw [if_pos (by omega), show (-(n : Int)).natAbs = n by omega, dec_small n h]
  exact (app_txt [45] [UInt8.ofNat (48 + n)]).symm
theorem txt_negs (n : Nat) (h : ¬ n < 10) : txt (-(n : Int)) = txt (-((n / 10 : Nat) : Int)) ++ dig (n % 10) := by
  unfold txt Lib.itoa dig
  rw [if_pos (by omega), if_pos (by omega), show (-(n : Int)).natAbs = n by omega, show (-((n / 10 : Nat) : Int)).natAbs = n / 10 by omega, dec_step n h]
  exact (app_txt (45 :: Lib.decDigits (n / 10)) [UInt8.ofNat (48 + n % 10)]).symm
theorem dig_size (d : Nat) : (dig d).size = 1 := rfl
theorem wid (n : Int) (h0 : -9223372036854775808 ≤ n) (h1 : n ≤ 9223372036854775807) : IntKind.i64.wrap n = n := by simp [IntKind.wrap, IntKind.bits, IntKind.signed]; omega
set_option maxRecDepth 100000 in
set_option maxHeartbeats 2000000 in
theorem pos_small (n : Nat) (h : n < 10) (w : World) : Calls Tryd.prog 37 #[.int .i64 (n : Int)] w fun e w' => e = .returned (.string (txt n)) ∧ ∃ k, w' = w.drewN k := by
  have hc := dig_cut n h
  rw [txt_pos n h]
  have d0 : decide ((n : Int) < 0) = false := decide_eq_false (by omega)
  have d1 : decide ((n : Int) < 10) = true := decide_eq_true (by omega)
  have d2 : decide (n < 10) = true := decide_eq_true h
  have w1 : IntKind.i64.wrap ((n : Int) + 1) = (n : Int) + 1 := wid _ (by omega) (by omega)
  have g1 : n + 1 ≤ 10 := by omega
  go_enter Tryd.func37, Tryd.ntmps37
  go_wp2
  go_ret
  exact ⟨rfl, 0, rfl⟩
set_option maxRecDepth 100000 in
set_option maxHeartbeats 2000000 in
theorem neg_small (x : Int) (d : Nat) (h : d < 10) (w : World) (hx : x < 0) (hm : wrap64 (-(Int.tmod x 10)) = (d : Int)) (hz : wrap64 (Int.tdiv x 10) = 0) : Calls Tryd.prog 37 #[.int .i64 x] w fun e w' => e = .returned (.string (⟨#[45]⟩ ++ dig d)) ∧ ∃ k, w' = w.drewN k := by
  have hc := dig_cut d h
  have hs := dig_size d
  have d0 : decide (x < 0) = true := decide_eq_true hx
  have w1 : IntKind.i64.wrap ((d : Int) + 1) = (d : Int) + 1 := wid _ (by omega) (by omega)
  have g1 : d + 1 ≤ 10 := by omega
  go_enter Tryd.func37, Tryd.ntmps37
  go_wp2
  go_ret
  exact ⟨rfl, 0, rfl⟩
set_option maxRecDepth 100000 in
set_option maxHeartbeats 2000000 in
theorem neg_more (x z : Int) (d : Nat) (t : ByteArray) (h : d < 10) (w : World) (hx : x < 0) (hm : wrap64 (-(Int.tmod x 10)) = (d : Int)) (hz : wrap64 (Int.tdiv x 10) = z) (hne : z ≠ 0) (ht : t.size ≤ 30)
    (ih : ∀ w : World, Calls Tryd.prog 37 #[.int .i64 z] w fun e w' => e = .returned (.string t) ∧ ∃ k, w' = w.drewN k) : Calls Tryd.prog 37 #[.int .i64 x] w fun e w' => e = .returned (.string (t ++ dig d)) ∧ ∃ k, w' = w.drewN k := by
  have hc := dig_cut d h
  have hs := dig_size d
  have d0 : decide (x < 0) = true := decide_eq_true hx
  have z0 : (z == 0) = false := beq_eq_false_iff_ne.2 hne
  have w1 : IntKind.i64.wrap ((d : Int) + 1) = (d : Int) + 1 := wid _ (by omega) (by omega)
  have g1 : d + 1 ≤ 10 := by omega
  have g2 : (9223372036854775807 < t.size + 1) = False := eq_false (by omega)
  have IH := Aside0.mk ih
  clear ih
  go_enter Tryd.func37, Tryd.ntmps37
  go_wp2
  go_quiet ((go_at_call 37; exact Calls.quiet_of (IH.out _)))
  go_wp2
  go_ret
  exact ⟨rfl, _, rfl⟩
set_option maxRecDepth 100000 in
set_option maxHeartbeats 2000000 in
theorem pos_more (n : Nat) (t : ByteArray) (h : ¬ n < 10) (hn : n ≤ 9223372036854775807) (w : World) (ht : t.size ≤ 30)
    (ih : ∀ w : World, Calls Tryd.prog 37 #[.int .i64 ((n / 10 : Nat) : Int)] w fun e w' => e = .returned (.string t) ∧ ∃ k, w' = w.drewN k) : Calls Tryd.prog 37 #[.int .i64 (n : Int)] w fun e w' => e = .returned (.string (t ++ dig (n % 10))) ∧ ∃ k, w' = w.drewN k := by
  have hc := dig_cut (n % 10) (by omega)
  have hs := dig_size (n % 10)
  have d0 : decide ((n : Int) < 0) = false := decide_eq_false (by omega)
  have d1 : decide ((n : Int) < 10) = false := decide_eq_false (by omega)
  have d2 : decide (n < 10) = false := decide_eq_false h
  have e1 : (n : Int).tdiv 10 = ((n / 10 : Nat) : Int) := by rw [Int.tdiv_eq_ediv_of_nonneg (by omega)]; rfl
  have e2 : (n : Int).tmod 10 = ((n % 10 : Nat) : Int) := by rw [Int.tmod_eq_emod_of_nonneg (by omega)]; rfl
  have e3 : ∀ m : Nat, m ≤ 9223372036854775807 → wrap64 (m : Int) = (m : Int) := fun m hm => by unfold wrap64; omega
  have w0 := e3 (n / 10) (by omega)
  generalize n / 10 = q at *
  have hd : n % 10 < 10 := by omega
  generalize n % 10 = d at *
  have w1 : IntKind.i64.wrap ((d : Int) + 1) = (d : Int) + 1 := wid _ (by omega) (by omega)
  have g1 : d + 1 ≤ 10 := by omega
  have g2 : (9223372036854775807 < t.size + 1) = False := eq_false (by omega)
  have IH := Aside0.mk ih
  clear ih e3
  go_enter Tryd.func37, Tryd.ntmps37
  go_wp2
  go_quiet ((go_at_call 37; exact Calls.quiet_of (IH.out _)))
  go_wp2
  go_ret
  exact ⟨rfl, _, rfl⟩
theorem number_pos (n : Nat) : n ≤ 9223372036854775807 → ∀ w : World, Calls Tryd.prog 37 #[.int .i64 (n : Int)] w fun e w' => e = .returned (.string (txt n)) ∧ ∃ k, w' = w.drewN k := by
  induction n using Nat.strongRecOn with
  | _ n ih =>
    intro hn w
    by_cases h : n < 10
    · exact pos_small n h w
    · rw [txt_step n h]
      exact pos_more n (txt ((n / 10 : Nat) : Int)) h hn w (txt_size _ (by omega) (by omega)) (ih (n / 10) (by omega) (by omega))
theorem number_neg (n : Nat) : 0 < n → n ≤ 9223372036854775808 → ∀ w : World, Calls Tryd.prog 37 #[.int .i64 (-(n : Int))] w fun e w' => e = .returned (.string (txt (-(n : Int)))) ∧ ∃ k, w' = w.drewN k := by
  induction n using Nat.strongRecOn with
  | _ n ih =>
    intro h0 hn w
    have hm : wrap64 (-(Int.tmod (-(n : Int)) 10)) = ((n % 10 : Nat) : Int) := by
      rw [Int.neg_tmod, Int.tmod_eq_emod_of_nonneg (by omega)]
      unfold wrap64
      omega
    have hz : wrap64 (Int.tdiv (-(n : Int)) 10) = -((n / 10 : Nat) : Int) := by
      rw [Int.neg_tdiv, Int.tdiv_eq_ediv_of_nonneg (by omega)]
      unfold wrap64
      omega
    by_cases h : n < 10
    · rw [txt_neg n h0 h, ← show n % 10 = n from Nat.mod_eq_of_lt h]
      exact neg_small (-((n % 10 : Nat) : Int)) (n % 10) (by omega) w (by omega) (by rw [Nat.mod_eq_of_lt h]; rw [Nat.mod_eq_of_lt h] at hm; exact hm) (by rw [Nat.mod_eq_of_lt h, hz, Nat.div_eq_of_lt h]; rfl)
    · rw [txt_negs n h]
      exact neg_more (-(n : Int)) (-((n / 10 : Nat) : Int)) (n % 10) _ (by omega) w (by omega) hm hz (by omega) (txt_size _ (by omega) (by omega)) (ih (n / 10) (by omega) (by omega) (by omega))
theorem calls (n : Int) (h0 : -9223372036854775808 ≤ n) (h1 : n ≤ 9223372036854775807) (w : World) : Calls Tryd.prog 37 #[.int .i64 n] w fun e w' => e = .returned (.string ⟨(Lib.itoa n).toArray⟩) ∧ Below w.heap.size w w' := by
  have hb : ∀ (k : Nat), Below w.heap.size w (w.drewN k) := fun k => pw_below_drewN (Below.refl _ _) k
  by_cases h : 0 ≤ n
  · obtain ⟨m, rfl⟩ : ∃ m : Nat, n = m := ⟨n.toNat, by omega⟩
    exact (number_pos m (by omega) w).mono fun e w' ⟨he, k, hk⟩ => ⟨he, by rw [hk]; exact hb k⟩
  · obtain ⟨m, rfl⟩ : ∃ m : Nat, n = -(m : Int) := ⟨(-n).toNat, by omega⟩
    exact (number_neg m (by omega) (by omega) w).mono fun e w' ⟨he, k, hk⟩ => ⟨he, by rw [hk]; exact hb k⟩
end Go.Proofs.YtcebnaknodghcaaDoor.HNumber
