/- Plain law of layer 2: what bytes add up to, the carry brought round; what is right with its check sum. Conditions: each lemma's own. -/
import Derived.Test.YtilkbmjkjlbfmaaPSegx10
import Derived.Test.YtilkbmjkjlbfmaaPSegx8
import Derived.Test.YtilkbmjkjlbfmaaAr
import Derived.Test.YtilkbmjkjlbfmaaHSum
namespace Go.Proofs.Ytilkbmjkjlbfmaa.PSeg
set_option linter.unusedVariables false
set_option linter.unusedSimpArgs false
open Go.RowKit Go.Proofs.YtilkbmjkjlbfmaaW.PrintWords Go.Proofs.YtilkbmjkjlbfmaaW.PrintLast Go.Proofs.YtilkbmjkjlbfmaaW.PrintMore Go.Proofs.Ytilkbmjkjlbfmaa.Ar Go.Proofs.Ytilkbmjkjlbfmaa.HSum

theorem bytesB_of {l : List Int} (h : ∀ x ∈ l, 0 ≤ x ∧ x ≤ 255) : bytesB l = true := by
  unfold bytesB
  rw [List.all_eq_true]
  intro x hx
  have := h x hx
  simpa using this
theorem bytesB_wf {l : List Int} (h : ∀ x ∈ l, (Lit.int .u8 x).wf = true) : bytesB l = true := bytesB_of fun x hx => bounds_u8 (h x hx)
theorem bytesB_mem {l : List Int} (h : bytesB l = true) {x : Int} (hx : x ∈ l) : 0 ≤ x ∧ x ≤ 255 := by
  have := List.all_eq_true.1 h x hx
  simpa using this

theorem or_i64 (x b : Int) (x0 : 0 ≤ x) (x1 : x ≤ 255) (b0 : 0 ≤ b) (b1 : b ≤ 255) : Go.bits .or .i64 (x * 256) b = x * 256 + b :=
  bits_join .i64 63 (by decide) (fun n h0 h1 => by rw [IntKind.wrap_i64]; omega) 8 (x * 256) b (by omega) (by omega) (by omega) b0 (by omega) (by omega)

/-- The pair at byte j, as a number. -/
def pair (l : List Int) (j : Nat) : Int := rd l j * 256 + (if j + 1 < l.length then rd l ((j + 1 : Nat) : Int) else 0)
theorem pr_pair {l : List Int} (h : bytesB l = true) (j : Nat) : pr l j = pair l j := by
  unfold pr pair
  have h0 := bytes_rd h (j : Int)
  have h1 := bytes_rd h ((j + 1 : Nat) : Int)
  split
  · exact or_i64 _ _ h0.1 h0.2 h1.1 h1.2
  · omega
theorem pair_bd {l : List Int} (h : bytesB l = true) (j : Nat) : 0 ≤ pair l j ∧ pair l j ≤ 65535 := by
  have h0 := bytes_rd h (j : Int)
  have h1 := bytes_rd h ((j + 1 : Nat) : Int)
  unfold pair
  split <;> omega

theorem refadd_f (a b : Int) : towroperef02_Add.f a b = some (addF a b) := by
  unfold towroperef02_Add.f towroperef02_Low.f
  rw [u64w, u64w, tm _ _ (by omega), tm _ _ (by omega)]
  simp only [Option.bind_some]
  have ea : a % 18446744073709551616 % 65536 = a % 65536 := by omega
  have eb : b % 18446744073709551616 % 65536 = b % 65536 := by omega
  rw [ea, eb, w64 (n := a % 65536) (by omega) (by omega), w64 (n := b % 65536) (by omega) (by omega), w64 (n := a % 65536 + b % 65536) (by omega) (by omega), w64 (by omega) (by omega)]
  unfold addF
  split <;> (congr 1; omega)

theorem refsum_loop (l : List Int) (hl : l.length ≤ 140737488355320) (h : bytesB l = true) : ∀ (d m k : Nat) (acc : Int), m + d = (l.length + 1) / 2 → d < k →
    towroperef02_Sum.l0 k l acc ((2 * m : Nat) : Int) = some (foldW acc ((List.range' m d).map fun k => pr l (2 * k))) := by
  intro d
  induction d with
  | zero =>
    intro m k acc hm hk
    obtain ⟨k, rfl⟩ : ∃ q, k = q + 1 := ⟨k - 1, by omega⟩
    simp only [towroperef02_Sum.l0]
    rw [if_neg (by omega)]
    rfl
  | succ d ih =>
    intro m k acc hm hk
    obtain ⟨k, rfl⟩ : ∃ q, k = q + 1 := ⟨k - 1, by omega⟩
    have h0 := bytes_rd h ((2 * m : Nat) : Int)
    have h1 := bytes_rd h ((2 * m + 1 : Nat) : Int)
    have e2 : wrap64 (((2 * m : Nat) : Int) + 2) = ((2 * (m + 1) : Nat) : Int) := by rw [w64 (by omega) (by omega)]; omega
    have e1 : wrap64 (((2 * m : Nat) : Int) + 1) = ((2 * m + 1 : Nat) : Int) := by rw [w64 (by omega) (by omega)]; omega
    have c1 : ((2 * m : Nat) : Int) < (l.length : Int) := by omega
    have c2 : (0 : Int) ≤ ((2 * m : Nat) : Int) := by omega
    have hp : pr l (2 * m) = rd l ((2 * m : Nat) : Int) * 256 + (if 2 * m + 1 < l.length then rd l ((2 * m + 1 : Nat) : Int) else 0) := pr_pair h (2 * m)
    simp only [towroperef02_Sum.l0]
    rw [if_pos c1, if_pos c2, e1, e2, w64 (n := rd l ((2 * m : Nat) : Int)) (by omega) (by omega), w64 (n := 256 * rd l ((2 * m : Nat) : Int)) (by omega) (by omega), w64 (n := rd l ((2 * m + 1 : Nat) : Int)) (by omega) (by omega),
      w64 (n := 256 * rd l ((2 * m : Nat) : Int) + rd l ((2 * m + 1 : Nat) : Int)) (by omega) (by omega), refadd_f, refadd_f]
    simp only [Option.bind_some, List.range'_succ, List.map_cons]
    have hf : ∀ ps : List Int, foldW acc (pr l (2 * m) :: ps) = foldW (addF acc (pr l (2 * m))) ps := fun ps => rfl
    rw [hf]
    by_cases c : ((2 * m + 1 : Nat) : Int) < (l.length : Int)
    · rw [if_pos c, if_pos (by omega), ih (m + 1) k _ (by omega) (by omega), hp, if_pos (by omega), Int.mul_comm]
    · rw [if_neg c, ih (m + 1) k _ (by omega) (by omega), hp, if_neg (by omega), Int.add_zero, Int.mul_comm]

theorem refsum_f (k : Nat) (l : List Int) (hl : l.length ≤ 140737488355320) (h : bytesB l = true) (hk : l.length + 2 ≤ k) : towroperef02_Sum.f k l = some (sumW l) := by
  unfold towroperef02_Sum.f
  have := refsum_loop l hl h ((l.length + 1) / 2) 0 k 0 (by omega) (by omega)
  rw [show ((2 * 0 : Nat) : Int) = 0 from rfl] at this
  rw [this]
  unfold sumW HSum.all pre
  rw [List.range_eq_range']

theorem sum_f (l : List Int) (hl : l.length ≤ 140737488351232) (h : bytesB l = true) : sum_Sum.f l = some (sumW l) := by
  unfold sum_Sum.f
  rw [if_pos ⟨h, by omega⟩]

/-! ### the sum, modulo 65535 -/
/-- The pairs' plain sum. -/
def tot (l : List Int) : Int := ((HSum.all l).map fun x => x).sum
def norm (t : Int) : Int := if t = 0 then 0 else (t - 1) % 65535 + 1
theorem norm_add (t p : Int) (ht : 0 ≤ t) (p0 : 0 ≤ p) (p1 : p ≤ 65535) : addF (norm t) p = norm (t + p) := by
  unfold norm addF
  repeat' split
  all_goals omega
theorem norm_bd (t : Int) (h : 0 ≤ t) : 0 ≤ norm t ∧ norm t ≤ 65535 := by
  unfold norm
  split <;> omega
theorem norm_mod (t : Int) : (t - norm t) % 65535 = 0 := by
  unfold norm
  split <;> omega

theorem foldW_norm (ps : List Int) (h : ∀ p ∈ ps, 0 ≤ p ∧ p ≤ 65535) : ∀ t : Int, 0 ≤ t → foldW (norm t) ps = norm (t + ps.sum) := by
  induction ps with
  | nil => intro t _; simp [foldW]
  | cons p ps ih =>
    intro t ht
    have hp := h p List.mem_cons_self
    have hc : foldW (norm t) (p :: ps) = foldW (addF (norm t) p) ps := rfl
    rw [hc, norm_add t p ht hp.1 hp.2, ih (fun q hq => h q (List.mem_cons_of_mem _ hq)) (t + p) (by omega), List.sum_cons, Int.add_assoc]

theorem all_bd {l : List Int} (h : bytesB l = true) : ∀ p ∈ HSum.all l, 0 ≤ p ∧ p ≤ 65535 := by
  intro p hp
  unfold HSum.all pre at hp
  obtain ⟨k, _, rfl⟩ := List.mem_map.1 hp
  rw [pr_pair h]
  exact pair_bd h _
theorem sum_nonneg (ps : List Int) (h : ∀ p ∈ ps, 0 ≤ p ∧ p ≤ 65535) : 0 ≤ ps.sum := by
  induction ps with
  | nil => simp
  | cons p ps ih =>
    rw [List.sum_cons]
    have := h p List.mem_cons_self
    have := ih (fun q hq => h q (List.mem_cons_of_mem _ hq))
    omega
theorem sumW_norm {l : List Int} (h : bytesB l = true) : sumW l = norm (HSum.all l).sum := by
  unfold sumW
  have := foldW_norm (HSum.all l) (all_bd h) 0 (by omega)
  rw [show norm 0 = 0 from rfl, Int.zero_add] at this
  exact this
theorem all_nonneg {l : List Int} (h : bytesB l = true) : 0 ≤ (HSum.all l).sum := sum_nonneg _ (all_bd h)
theorem sumW_top {l : List Int} (h : bytesB l = true) : 0 ≤ sumW l ∧ sumW l ≤ 65535 := by
  rw [sumW_norm h]
  exact norm_bd _ (all_nonneg h)
end Go.Proofs.Ytilkbmjkjlbfmaa.PSeg
