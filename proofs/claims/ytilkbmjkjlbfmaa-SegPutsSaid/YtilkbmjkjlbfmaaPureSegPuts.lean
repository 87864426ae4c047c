/- Any segment's bytes, or the error, are those by definition; it is got again. No conditions. -/
import Derived.Test.YtilkbmjkjlbfmaaPSegPx1
import Derived.Test.YtilkbmjkjlbfmaaPSegPx10
import Derived.Test.YtilkbmjkjlbfmaaPSegPx2
import Derived.Test.YtilkbmjkjlbfmaaPSegPx3
import Derived.Test.YtilkbmjkjlbfmaaPSegPx4
import Derived.Test.YtilkbmjkjlbfmaaPSegPx5
import Derived.Test.YtilkbmjkjlbfmaaPSegPx6
import Derived.Test.YtilkbmjkjlbfmaaPSegPx7
import Derived.Test.YtilkbmjkjlbfmaaPSegPx8
import Derived.Test.YtilkbmjkjlbfmaaPSegPx9
import Derived.Test.YtilkbmjkjlbfmaaAr
import Derived.Test.YtilkbmjkjlbfmaaHSum
import Derived.Test.YtilkbmjkjlbfmaaHRead
import Derived.Test.YtilkbmjkjlbfmaaQSegPuts
namespace Go.Proofs.Ytilkbmjkjlbfmaa.PSegP
open Go.RowKit Go.Proofs.YtilkbmjkjlbfmaaW.PrintWords Go.Proofs.YtilkbmjkjlbfmaaW.PrintLast Go.Proofs.YtilkbmjkjlbfmaaW.PrintMore Go.Proofs.Ytilkbmjkjlbfmaa.Ar Go.Proofs.Ytilkbmjkjlbfmaa.HSum
set_option linter.unusedVariables false
set_option linter.unusedSimpArgs false

theorem bytesB_of {l : List Int} (h : ∀ x ∈ l, 0 ≤ x ∧ x ≤ 255) : bytesB l = true := by
  unfold bytesB
  rw [List.all_eq_true]
  intro x hx
  have := h x hx
  simpa using this
theorem bytesB_wf {l : List Int} (h : ∀ x ∈ l, (Lit.int .u8 x).wf = true) : bytesB l = true := bytesB_of fun x hx => bounds_u8 (h x hx)
theorem bytesB_mem {l : List Int} (h : bytesB l = true) {x : Int} (hx : x ∈ l) : 0 ≤ x ∧ x ≤ 255 := by
  have := List.all_eq_true.1 h x hx
  simpa using this

theorem or_i64 (x b : Int) (x0 : 0 ≤ x) (x1 : x ≤ 255) (b0 : 0 ≤ b) (b1 : b ≤ 255) : Go.bits .or .i64 (x * 256) b = x * 256 + b :=
  bits_join .i64 63 (by decide) (fun n h0 h1 => by rw [IntKind.wrap_i64]; omega) 8 (x * 256) b (by omega) (by omega) (by omega) b0 (by omega) (by omega)

/-- The pair at byte j, as a number. -/
def pair (l : List Int) (j : Nat) : Int := rd l j * 256 + (if j + 1 < l.length then rd l ((j + 1 : Nat) : Int) else 0)
theorem pr_pair {l : List Int} (h : bytesB l = true) (j : Nat) : pr l j = pair l j := by
  unfold pr pair
  have h0 := bytes_rd h (j : Int)
  have h1 := bytes_rd h ((j + 1 : Nat) : Int)
  split
  · exact or_i64 _ _ h0.1 h0.2 h1.1 h1.2
  · omega
theorem pair_bd {l : List Int} (h : bytesB l = true) (j : Nat) : 0 ≤ pair l j ∧ pair l j ≤ 65535 := by
  have h0 := bytes_rd h (j : Int)
  have h1 := bytes_rd h ((j + 1 : Nat) : Int)
  unfold pair
  split <;> omega

theorem refadd_f (a b : Int) : towroperef02_Add.f a b = some (addF a b) := by
  unfold towroperef02_Add.f towroperef02_Low.f
  rw [u64w, u64w, tm _ _ (by omega), tm _ _ (by omega)]
  simp only [Option.bind_some]
  have ea : a % 18446744073709551616 % 65536 = a % 65536 := by omega
  have eb : b % 18446744073709551616 % 65536 = b % 65536 := by omega
  rw [ea, eb, w64 (n := a % 65536) (by omega) (by omega), w64 (n := b % 65536) (by omega) (by omega), w64 (n := a % 65536 + b % 65536) (by omega) (by omega), w64 (by omega) (by omega)]
  unfold addF
  split <;> (congr 1; omega)

theorem refsum_loop (l : List Int) (hl : l.length ≤ 140737488355320) (h : bytesB l = true) : ∀ (d m k : Nat) (acc : Int), m + d = (l.length + 1) / 2 → d < k →
    towroperef02_Sum.l0 k l acc ((2 * m : Nat) : Int) = some (foldW acc ((List.range' m d).map fun k => pr l (2 * k))) := by
  intro d
  induction d with
  | zero =>
    intro m k acc hm hk
    obtain ⟨k, rfl⟩ : ∃ q, k = q + 1 := ⟨k - 1, by omega⟩
    simp only [towroperef02_Sum.l0]
    rw [if_neg (by omega)]
    rfl
  | succ d ih =>
    intro m k acc hm hk
    obtain ⟨k, rfl⟩ : ∃ q, k = q + 1 := ⟨k - 1, by omega⟩
    have h0 := bytes_rd h ((2 * m : Nat) : Int)
    have h1 := bytes_rd h ((2 * m + 1 : Nat) : Int)
    have e2 : wrap64 (((2 * m : Nat) : Int) + 2) = ((2 * (m + 1) : Nat) : Int) := by rw [w64 (by omega) (by omega)]; omega
    have e1 : wrap64 (((2 * m : Nat) : Int) + 1) = ((2 * m + 1 : Nat) : Int) := by rw [w64 (by omega) (by omega)]; omega
    have c1 : ((2 * m : Nat) : Int) < (l.length : Int) := by omega
    have c2 : (0 : Int) ≤ ((2 * m : Nat) : Int) := by omega
    have hp : pr l (2 * m) = rd l ((2 * m : Nat) : Int) * 256 + (if 2 * m + 1 < l.length then rd l ((2 * m + 1 : Nat) : Int) else 0) := pr_pair h (2 * m)
    simp only [towroperef02_Sum.l0]
    rw [if_pos c1, if_pos c2, e1, e2, w64 (n := rd l ((2 * m : Nat) : Int)) (by omega) (by omega), w64 (n := 256 * rd l ((2 * m : Nat) : Int)) (by omega) (by omega), w64 (n := rd l ((2 * m + 1 : Nat) : Int)) (by omega) (by omega),
      w64 (n := 256 * rd l ((2 * m : Nat) : Int) + rd l ((2 * m + 1 : Nat) : Int)) (by omega) (by omega), refadd_f, refadd_f]
    simp only [Option.bind_some, List.range'_succ, List.map_cons]
    have hf : ∀ ps : List Int, foldW acc (pr l (2 * m) :: ps) = foldW (addF acc (pr l (2 * m))) ps := fun ps => rfl
    rw [hf]
    by_cases c : ((2 * m + 1 : Nat) : Int) < (l.length : Int)
    · rw [if_pos c, if_pos (by omega), ih (m + 1) k _ (by omega) (by omega), hp, if_pos (by omega), Int.mul_comm]
    · rw [if_neg c, ih (m + 1) k _ (by omega) (by omega), hp, if_neg (by omega), Int.add_zero, Int.mul_comm]

theorem refsum_f (k : Nat) (l : List Int) (hl : l.length ≤ 140737488355320) (h : bytesB l = true) (hk : l.length + 2 ≤ k) : towroperef02_Sum.f k l = some (sumW l) := by
  unfold towroperef02_Sum.f
  have := refsum_loop l hl h ((l.length + 1) / 2) 0 k 0 (by omega) (by omega)
  rw [show ((2 * 0 : Nat) : Int) = 0 from rfl] at this
  rw [this]
  unfold sumW HSum.all pre
  rw [List.range_eq_range']

def norm (t : Int) : Int := if t = 0 then 0 else (t - 1) % 65535 + 1
theorem norm_add (t p : Int) (ht : 0 ≤ t) (p0 : 0 ≤ p) (p1 : p ≤ 65535) : addF (norm t) p = norm (t + p) := by
  unfold norm addF
  repeat' split
  all_goals omega
theorem norm_bd (t : Int) (h : 0 ≤ t) : 0 ≤ norm t ∧ norm t ≤ 65535 := by
  unfold norm
  split <;> omega
theorem foldW_norm (ps : List Int) (h : ∀ p ∈ ps, 0 ≤ p ∧ p ≤ 65535) : ∀ t : Int, 0 ≤ t → foldW (norm t) ps = norm (t + ps.sum) := by
  induction ps with
  | nil => intro t _; simp [foldW]
  | cons p ps ih =>
    intro t ht
    have hp := h p List.mem_cons_self
    have hc : foldW (norm t) (p :: ps) = foldW (addF (norm t) p) ps := rfl
    rw [hc, norm_add t p ht hp.1 hp.2, ih (fun q hq => h q (List.mem_cons_of_mem _ hq)) (t + p) (by omega), List.sum_cons, Int.add_assoc]

theorem all_bd {l : List Int} (h : bytesB l = true) : ∀ p ∈ HSum.all l, 0 ≤ p ∧ p ≤ 65535 := by
  intro p hp
  unfold HSum.all pre at hp
  obtain ⟨k, _, rfl⟩ := List.mem_map.1 hp
  rw [pr_pair h]
  exact pair_bd h _
theorem sum_nonneg (ps : List Int) (h : ∀ p ∈ ps, 0 ≤ p ∧ p ≤ 65535) : 0 ≤ ps.sum := by
  induction ps with
  | nil => simp
  | cons p ps ih =>
    rw [List.sum_cons]
    have := h p List.mem_cons_self
    have := ih (fun q hq => h q (List.mem_cons_of_mem _ hq))
    omega
theorem sumW_norm {l : List Int} (h : bytesB l = true) : sumW l = norm (HSum.all l).sum := by
  unfold sumW
  have := foldW_norm (HSum.all l) (all_bd h) 0 (by omega)
  rw [show norm 0 = 0 from rfl, Int.zero_add] at this
  exact this
theorem all_nonneg {l : List Int} (h : bytesB l = true) : 0 ≤ (HSum.all l).sum := sum_nonneg _ (all_bd h)
theorem sumW_top {l : List Int} (h : bytesB l = true) : 0 ≤ sumW l ∧ sumW l ≤ 65535 := by
  rw [sumW_norm h]
  exact norm_bd _ (all_nonneg h)
end Go.Proofs.Ytilkbmjkjlbfmaa.PSegP
namespace Go.Proofs.Ytilkbmjkjlbfmaa.PSegP
open Go.RowKit Go.Proofs.YtilkbmjkjlbfmaaW.PrintWords Go.Proofs.YtilkbmjkjlbfmaaW.PrintLast Go.Proofs.YtilkbmjkjlbfmaaW.PrintMore Go.Proofs.Ytilkbmjkjlbfmaa.Ar Go.Proofs.Ytilkbmjkjlbfmaa.HSum
set_option linter.unusedVariables false
set_option linter.unusedSimpArgs false

def tt : List Int → Int
  | a :: b :: t => a * 256 + b + tt t
  | [a] => a * 256
  | [] => 0

theorem rd_two (a b : Int) (t : List Int) (j : Nat) : rd (a :: b :: t) ((j + 2 : Nat) : Int) = rd t j := by
  unfold rd
  simp only [Int.toNat_natCast]
  rfl
theorem pair_two (a b : Int) (t : List Int) (j : Nat) : pair (a :: b :: t) (j + 2) = pair t j := by
  unfold pair
  rw [rd_two, show j + 2 + 1 = (j + 1) + 2 from rfl, rd_two]
  simp only [List.length_cons]
  congr 1
  by_cases h : j + 1 < t.length
  · rw [if_pos h, if_pos (by omega)]
  · rw [if_neg h, if_neg (by omega)]
theorem bytesB_cons {a : Int} {t : List Int} (h : bytesB (a :: t) = true) : (0 ≤ a ∧ a ≤ 255) ∧ bytesB t = true :=
  ⟨bytesB_mem h List.mem_cons_self, bytesB_of fun _ hx => bytesB_mem h (List.mem_cons_of_mem _ hx)⟩
theorem bytesB_append {a b : List Int} (ha : bytesB a = true) (hb : bytesB b = true) : bytesB (a ++ b) = true :=
  bytesB_of fun x hx => (List.mem_append.1 hx).elim (fun h => bytesB_mem ha h) (fun h => bytesB_mem hb h)

theorem all_tt : ∀ l : List Int, bytesB l = true → (HSum.all l).sum = tt l
  | [], _ => rfl
  | [a], h => by
    unfold HSum.all pre
    simp only [List.length_cons, List.length_nil]
    rw [show (0 + 1 + 1) / 2 = 1 from rfl, List.range_one, List.map_cons, List.map_nil, List.sum_cons, List.sum_nil, pr_pair h]
    unfold pair tt rd
    simp
  | a :: b :: t, h => by
    have h2 := (bytesB_cons (bytesB_cons h).2).2
    have ih := all_tt t h2
    unfold HSum.all pre at ih ⊢
    simp only [List.length_cons]
    rw [show (t.length + 1 + 1 + 1) / 2 = (t.length + 1) / 2 + 1 by omega, List.range_succ_eq_map, List.map_cons, List.sum_cons, List.map_map]
    have e : (List.map ((fun k => pr (a :: b :: t) (2 * k)) ∘ Nat.succ) (List.range ((t.length + 1) / 2))) = List.map (fun k => pr t (2 * k)) (List.range ((t.length + 1) / 2)) := by
      refine List.map_congr_left fun k _ => ?_
      show pr (a :: b :: t) (2 * (k + 1)) = pr t (2 * k)
      rw [pr_pair h, pr_pair h2, show 2 * (k + 1) = 2 * k + 2 by omega, pair_two]
    rw [e, ih, pr_pair h]
    have e0 : pair (a :: b :: t) (2 * 0) = a * 256 + b := by
      unfold pair rd
      simp
    rw [e0]
    rfl

theorem sumW_tt {l : List Int} (h : bytesB l = true) : sumW l = norm (tt l) := by rw [sumW_norm h, all_tt l h]
theorem tt_nonneg {l : List Int} (h : bytesB l = true) : 0 ≤ tt l := by rw [← all_tt l h]; exact all_nonneg h

theorem tt_append : ∀ a b : List Int, a.length % 2 = 0 → tt (a ++ b) = tt a + tt b
  | [], b, _ => by simp [tt]
  | [_], _, h => by simp at h
  | x :: y :: t, b, h => by
    have := tt_append t b (by simp only [List.length_cons] at h; omega)
    show x * 256 + y + tt (t ++ b) = x * 256 + y + tt t + tt b
    rw [this]
    omega

theorem norm_full (t : Int) (h : 0 ≤ t) : norm (t + (65535 - norm t)) = 65535 := by
  unfold norm
  split <;> (split <;> omega)
def twoS (n : Int) : List Int := [n % 65536 / 256, n % 256]
theorem twoS_bytes (n : Int) : bytesB (twoS n) = true := bytesB_of fun x hx => by
  unfold twoS at hx
  simp only [List.mem_cons, List.not_mem_nil, or_false] at hx
  omega
theorem tt_two (n : Int) (h0 : 0 ≤ n) (h1 : n ≤ 65535) : tt (twoS n) = n := by
  unfold twoS
  simp only [tt]
  omega
end Go.Proofs.Ytilkbmjkjlbfmaa.PSegP
namespace Go.Proofs.Ytilkbmjkjlbfmaa.PSegP
open Go.RowKit Go.Proofs.YtilkbmjkjlbfmaaW.PrintWords Go.Proofs.YtilkbmjkjlbfmaaW.PrintLast Go.Proofs.YtilkbmjkjlbfmaaW.PrintMore Go.Proofs.Ytilkbmjkjlbfmaa.Ar Go.Proofs.Ytilkbmjkjlbfmaa.HSum
set_option linter.unusedVariables false
set_option linter.unusedSimpArgs false

theorem put_step (k : Nat) (x m n i sh i1 : Int) (l : List Int) (hi : i < n) (hsh : wrap64 (8 * wrap64 (wrap64 (m - 1) - i)) = sh) (hs : 0 ≤ sh) (hl : l.length < 140737488355328) (h1 : wrap64 (i + 1) = i1) :
    octet_put.l0 (k + 1) x m l n i = octet_put.l0 k x m (l ++ [(shr .u64 x sh) % 256]) n i1 := by
  simp only [octet_put.l0]
  rw [if_pos hi, hsh, if_pos hs, if_pos hl, h1]
theorem put_end (k : Nat) (x m n i : Int) (l : List Int) (hi : ¬ i < n) : octet_put.l0 (k + 1) x m l n i = some l := by
  simp only [octet_put.l0]
  rw [if_neg hi]
theorem shr0 (x : Int) : shr .u64 x 0 = x := by
  unfold shr
  rw [show (2 : Int) ^ min (Int.toNat 0) IntKind.u64.bits = 1 by decide +kernel]
  omega
theorem shr8 (x : Int) : shr .u64 x 8 = x / 256 := by
  unfold shr
  rw [show (2 : Int) ^ min (Int.toNat 8) IntKind.u64.bits = 256 by decide +kernel]
theorem shr16 (x : Int) : shr .u64 x 16 = x / 65536 := by
  unfold shr
  rw [show (2 : Int) ^ min (Int.toNat 16) IntKind.u64.bits = 65536 by decide +kernel]
theorem shr24 (x : Int) : shr .u64 x 24 = x / 16777216 := by
  unfold shr
  rw [show (2 : Int) ^ min (Int.toNat 24) IntKind.u64.bits = 16777216 by decide +kernel]

def fourS (n : Int) : List Int := [n / 16777216 % 256, n / 65536 % 256, n / 256 % 256, n % 256]
theorem clone_f (l : List Int) (hl : l.length < 140737488355328) : slices_Clone_byte_byte.f l = some l := by
  unfold slices_Clone_byte_byte.f
  rw [if_pos hl]

theorem put2_f (k : Nat) (l : List Int) (x : Int) (hl : l.length + 2 ≤ 140737488355328) : octet_put.f (k + 3) l x 2 = some (l ++ [x / 256 % 256, x % 256]) := by
  unfold octet_put.f
  rw [clone_f l (by omega)]
  simp only [Option.bind_some]
  rw [put_step (k + 2) x 2 2 0 8 1 l (by decide) (by decide +kernel) (by decide) (by omega) (by decide +kernel),
    put_step (k + 1) x 2 2 1 0 2 _ (by decide) (by decide +kernel) (by decide) (by simp; omega) (by decide +kernel), put_end k x 2 2 2 _ (by decide), shr8, shr0]
  simp
theorem put4_f (k : Nat) (l : List Int) (x : Int) (hl : l.length + 4 ≤ 140737488355328) : octet_put.f (k + 5) l x 4 = some (l ++ fourS x) := by
  unfold octet_put.f fourS
  rw [clone_f l (by omega)]
  simp only [Option.bind_some]
  rw [put_step (k + 4) x 4 4 0 24 1 l (by decide) (by decide +kernel) (by decide) (by omega) (by decide +kernel),
    put_step (k + 3) x 4 4 1 16 2 _ (by decide) (by decide +kernel) (by decide) (by simp; omega) (by decide +kernel),
    put_step (k + 2) x 4 4 2 8 3 _ (by decide) (by decide +kernel) (by decide) (by simp; omega) (by decide +kernel),
    put_step (k + 1) x 4 4 3 0 4 _ (by decide) (by decide +kernel) (by decide) (by simp; omega) (by decide +kernel), put_end k x 4 4 4 _ (by decide), shr24, shr16, shr8, shr0]
  simp

theorem put16_f (k : Nat) (l : List Int) (n : Int) (hl : l.length + 2 ≤ 140737488355328) : octet_Put16.f (k + 3) l n = some (l ++ twoS n) := by
  unfold octet_Put16.f
  rw [u16w, u64w, show n % 65536 % 18446744073709551616 = n % 65536 by omega, put2_f k l _ hl]
  simp only [Option.bind_some]
  unfold twoS
  rw [show n % 65536 / 256 % 256 = n % 65536 / 256 by omega, show n % 65536 % 256 = n % 256 by omega]
theorem put32_f (k : Nat) (l : List Int) (n : Int) (n0 : 0 ≤ n) (n1 : n ≤ 4294967295) (hl : l.length + 4 ≤ 140737488355328) : octet_Put32.f (k + 5) l n = some (l ++ fourS n) := by
  unfold octet_Put32.f
  rw [u64w, show n % 18446744073709551616 = n by omega, put4_f k l n hl]
  rfl
theorem fourS_bytes (n : Int) : bytesB (fourS n) = true := bytesB_of fun x hx => by
  unfold fourS at hx
  simp only [List.mem_cons, List.not_mem_nil, or_false] at hx
  omega
end Go.Proofs.Ytilkbmjkjlbfmaa.PSegP
namespace Go.Proofs.Ytilkbmjkjlbfmaa.PSegP
open Go.RowKit Go.Proofs.Ytilkbmjkjlbfmaa.PSegP Go.Proofs.YtilkbmjkjlbfmaaW.PrintWords Go.Proofs.YtilkbmjkjlbfmaaW.PrintLast Go.Proofs.YtilkbmjkjlbfmaaW.PrintMore Go.Proofs.Ytilkbmjkjlbfmaa.Ar Go.Proofs.Ytilkbmjkjlbfmaa.HSum Go.Proofs.Ytilkbmjkjlbfmaa.HExt
set_option linter.unusedVariables false
set_option linter.unusedSimpArgs false

/-- Options as bytes. -/
def optB (m s : Int) : List Int := (if m = 0 then [] else [2, 4] ++ twoS m) ++ (if s = 0 then [] else [1, 3, 3, s - 1])
theorem options_f (k : Nat) (a0 a1 a2 a3 a4 a5 m s : Int) (d : List Int) (m0 : 0 ≤ m ∧ m ≤ 65535) (s0 : 0 ≤ s ∧ s ≤ 15) : seg_Options.f (k + 3) a0 a1 a2 a3 a4 a5 m s d = some (optB m s) := by
  have e : s ≠ 0 → wrap64 (s - 1) % 256 = s - 1 := fun h => by rw [w64 (by omega) (by omega)]; omega
  unfold seg_Options.f optB
  by_cases hm : m = 0
  · rw [if_pos hm, if_pos hm]
    by_cases hs : s = 0
    · rw [if_pos hs, if_pos hs]; rfl
    · rw [if_neg hs, if_neg hs, Option.bind_some, if_pos (by simp only [List.length_cons, List.length_nil]; omega), e hs]
  · rw [if_neg hm, if_neg hm, put16_f k _ m (by simp only [List.length_cons, List.length_nil]; omega), Option.bind_some]
    by_cases hs : s = 0
    · rw [if_pos hs, if_pos hs, List.append_nil]
    · rw [if_neg hs, if_neg hs, Option.bind_some, if_pos (by simp only [twoS, List.length_append, List.length_cons, List.length_nil]; omega), e hs]
theorem optB_bytes (m s : Int) (s0 : 0 ≤ s ∧ s ≤ 15) : bytesB (optB m s) = true := by
  unfold optB
  refine bytesB_append ?_ ?_
  · split
    · rfl
    · exact bytesB_append (by rfl) (twoS_bytes m)
  · split
    · rfl
    · exact bytesB_of fun x hx => by simp only [List.mem_cons, List.not_mem_nil, or_false] at hx; omega
theorem optB_len (m s : Int) : (optB m s).length ≤ 8 ∧ (optB m s).length % 4 = 0 := by
  unfold optB twoS
  split <;> split <;> simp
end Go.Proofs.Ytilkbmjkjlbfmaa.PSegP
namespace Go.Proofs.Ytilkbmjkjlbfmaa.PSegP
open Go.RowKit Go.Proofs.YtilkbmjkjlbfmaaW.PrintWords Go.Proofs.YtilkbmjkjlbfmaaW.PrintLast Go.Proofs.YtilkbmjkjlbfmaaW.PrintMore Go.Proofs.Ytilkbmjkjlbfmaa.Ar Go.Proofs.Ytilkbmjkjlbfmaa.HSum
set_option linter.unusedVariables false
set_option linter.unusedSimpArgs false

theorem two_f (n : Int) : towroperef01_Two.f n = some (twoS n) := by
  unfold towroperef01_Two.f twoS
  rw [u64w, tm _ _ (by omega)]
  have e : n % 18446744073709551616 % 65536 = n % 65536 := by omega
  rw [e, w64 (n := n % 65536) (by omega) (by omega), tm _ _ (by omega), td _ _ (by omega), w64 (by omega) (by omega), show n % 65536 / 256 % 256 = n % 65536 / 256 by omega, show n % 65536 % 256 % 256 = n % 256 by omega]
end Go.Proofs.Ytilkbmjkjlbfmaa.PSegP
namespace Go.Proofs.Ytilkbmjkjlbfmaa.PSegP
open Go.RowKit Go.Proofs.YtilkbmjkjlbfmaaW.PrintWords Go.Proofs.YtilkbmjkjlbfmaaW.PrintLast Go.Proofs.YtilkbmjkjlbfmaaW.PrintMore Go.Proofs.Ytilkbmjkjlbfmaa.Ar Go.Proofs.Ytilkbmjkjlbfmaa.HSum
set_option linter.unusedVariables false
set_option linter.unusedSimpArgs false

theorem four_f (n : Int) (n0 : 0 ≤ n) (n1 : n ≤ 4294967295) : towroperef01_Four.f n = some (fourS n) := by
  unfold towroperef01_Four.f
  rw [td _ _ n0, tm _ _ n0, two_f, two_f, w64 (n := n % 65536) (by omega) (by omega)]
  simp only [Option.bind_some]
  unfold twoS fourS
  simp only [List.length_cons, List.length_nil]
  rw [if_pos (by omega)]
  simp only [List.cons_append, List.nil_append]
  rw [show n / 65536 % 4294967296 % 65536 / 256 = n / 16777216 % 256 by omega, show n / 65536 % 4294967296 % 256 = n / 65536 % 256 by omega, show n % 65536 % 65536 / 256 = n / 256 % 256 by omega, show n % 65536 % 256 = n % 256 by omega]
end Go.Proofs.Ytilkbmjkjlbfmaa.PSegP
namespace Go.Proofs.Ytilkbmjkjlbfmaa.PSegP
open Go.RowKit Go.Proofs.YtilkbmjkjlbfmaaW.PrintWords Go.Proofs.YtilkbmjkjlbfmaaW.PrintLast Go.Proofs.YtilkbmjkjlbfmaaW.PrintMore Go.Proofs.Ytilkbmjkjlbfmaa.Ar Go.Proofs.Ytilkbmjkjlbfmaa.HSum
set_option linter.unusedVariables false
set_option linter.unusedSimpArgs false

def headS (s d p n : Int) : List Int := fourS s ++ fourS d ++ [0, p] ++ twoS n
theorem headS_len (s d p n : Int) : (headS s d p n).length = 12 := rfl
theorem headS_bytes (s d p n : Int) (p0 : 0 ≤ p) (p1 : p ≤ 255) : bytesB (headS s d p n) = true :=
  bytesB_append (bytesB_append (bytesB_append (fourS_bytes s) (fourS_bytes d)) (bytesB_of fun x hx => by simp only [List.mem_cons, List.not_mem_nil, or_false] at hx; omega)) (twoS_bytes n)
theorem head_f (k : Nat) (s d p n : Int) (s0 : 0 ≤ s) (s1 : s ≤ 4294967295) (d0 : 0 ≤ d) (d1 : d ≤ 4294967295) : sum_Head.f (k + 5) s d p n = some (headS s d p n) := by
  unfold sum_Head.f
  rw [put32_f k [] s s0 s1 (by simp)]
  simp only [Option.bind_some]
  rw [put32_f k _ d d0 d1 (by simp [fourS])]
  simp only [Option.bind_some]
  have hl : ([] ++ fourS s ++ fourS d).length = 8 := rfl
  rw [hl, if_pos (by simp), put16_f (k + 2) _ n (by simp [fourS])]
  rfl
theorem refhead_f (s d p n : Int) (s0 : 0 ≤ s) (s1 : s ≤ 4294967295) (d0 : 0 ≤ d) (d1 : d ≤ 4294967295) : towroperef02_Head.f s d p n = some (headS s d p n) := by
  unfold towroperef02_Head.f
  rw [four_f s s0 s1, four_f d d0 d1]
  simp only [Option.bind_some]
  have hl : (fourS s ++ fourS d).length = 8 := rfl
  have h4 : ∀ x, (fourS x).length = 4 := fun _ => rfl
  have h2 : ∀ x, (twoS x).length = 2 := fun _ => rfl
  rw [h4, h4, if_pos (by omega), hl, if_pos (by simp), two_f]
  simp only [Option.bind_some]
  rw [h2, List.length_append, hl, if_pos (by simp)]
  rfl

theorem of_tt (hd l : List Int) (hh : bytesB hd = true) (hb : bytesB l = true) (he : hd.length % 2 = 0) : ofW hd l = 65535 - sumW (hd ++ l) := by
  unfold ofW
  rw [sumW_tt hh, foldW_norm _ (all_bd hb) _ (tt_nonneg hh), all_tt l hb, sumW_tt (bytesB_append hh hb), tt_append hd l he]
theorem of_f (s d p : Int) (l : List Int) (s0 : 0 ≤ s) (s1 : s ≤ 4294967295) (d0 : 0 ≤ d) (d1 : d ≤ 4294967295) (p0 : 0 ≤ p) (p1 : p ≤ 255) (hl : l.length ≤ 140737488355315) (hb : bytesB l = true) :
    sum_Of.f s d p l = some (65535 - sumW (headS s d p l.length ++ l)) := by
  have hh := headS_bytes s d p l.length p0 p1
  unfold sum_Of.f
  rw [head_f 3 s d p _ s0 s1 d0 d1]
  simp only [Option.bind_some]
  rw [if_pos ⟨hh, hb, by rw [headS_len]; omega, by omega⟩, of_tt _ _ hh hb (by rw [headS_len])]
theorem refof_f (k : Nat) (s d p : Int) (l : List Int) (s0 : 0 ≤ s) (s1 : s ≤ 4294967295) (d0 : 0 ≤ d) (d1 : d ≤ 4294967295) (p0 : 0 ≤ p) (p1 : p ≤ 255) (hl : l.length ≤ 140737488351232) (hb : bytesB l = true) (hk : l.length + 20 ≤ k) :
    towroperef02_Of.f k s d p l = some (65535 - sumW (headS s d p l.length ++ l)) := by
  have hh := headS_bytes s d p l.length p0 p1
  have ht := sumW_top (bytesB_append hh hb)
  unfold towroperef02_Of.f
  rw [refhead_f s d p _ s0 s1 d0 d1]
  simp only [Option.bind_some]
  rw [headS_len, if_pos (by omega), refsum_f k _ (by rw [List.length_append, headS_len]; omega) (bytesB_append hh hb) (by rw [List.length_append, headS_len]; omega)]
  simp only [Option.bind_some]
  rw [w64 (by omega) (by omega)]
end Go.Proofs.Ytilkbmjkjlbfmaa.PSegP
namespace Go.Proofs.Ytilkbmjkjlbfmaa.PSegP
open Go.RowKit Go.Proofs.Ytilkbmjkjlbfmaa.PSegP Go.Proofs.YtilkbmjkjlbfmaaW.PrintWords Go.Proofs.YtilkbmjkjlbfmaaW.PrintLast Go.Proofs.YtilkbmjkjlbfmaaW.PrintMore Go.Proofs.Ytilkbmjkjlbfmaa.Ar Go.Proofs.Ytilkbmjkjlbfmaa.HSum Go.Proofs.Ytilkbmjkjlbfmaa.HExt
set_option linter.unusedVariables false
set_option linter.unusedSimpArgs false

theorem ck_sum (A Z : List Int) (ha : bytesB A = true) (hz : bytesB Z = true) (hA : A.length % 2 = 0) (n : Int) (hn : n = 65535 - sumW (A ++ ([0, 0] ++ Z))) :
    ∃ u, 0 ≤ u ∧ tt (A ++ (twoS n ++ Z)) = u + (65535 - norm u) ∧ sumW (A ++ (twoS n ++ Z)) = 65535 := by
  have h00 : bytesB [0, 0] = true := by rfl
  have hb : bytesB (A ++ ([0, 0] ++ Z)) = true := bytesB_append ha (bytesB_append h00 hz)
  have hm : bytesB (A ++ (twoS n ++ Z)) = true := bytesB_append ha (bytesB_append (twoS_bytes _) hz)
  have hs := sumW_tt hb
  have h0 := tt_nonneg hb
  have hv := norm_bd _ h0
  have e1 : tt (A ++ ([0, 0] ++ Z)) = tt A + tt Z := by
    rw [tt_append _ _ hA, tt_append _ _ (by simp)]
    simp [tt]
  have e2 : tt (A ++ (twoS n ++ Z)) = tt A + (n + tt Z) := by
    rw [tt_append _ _ hA, tt_append _ _ (by simp [twoS]), tt_two _ (by omega) (by omega)]
  have e4 : tt (A ++ (twoS n ++ Z)) = tt (A ++ ([0, 0] ++ Z)) + (65535 - norm (tt (A ++ ([0, 0] ++ Z)))) := by rw [e2]; rw [hs] at hn; omega
  refine ⟨_, h0, e4, ?_⟩
  rw [sumW_tt hm, e4, norm_full _ h0]
end Go.Proofs.Ytilkbmjkjlbfmaa.PSegP
namespace Go.Proofs.Ytilkbmjkjlbfmaa.PSegP
open Go.RowKit Go.Proofs.Ytilkbmjkjlbfmaa.PSegP Go.Proofs.YtilkbmjkjlbfmaaW.PrintWords Go.Proofs.YtilkbmjkjlbfmaaW.PrintLast Go.Proofs.YtilkbmjkjlbfmaaW.PrintMore Go.Proofs.Ytilkbmjkjlbfmaa.Ar Go.Proofs.Ytilkbmjkjlbfmaa.HSum Go.Proofs.Ytilkbmjkjlbfmaa.HExt
set_option linter.unusedVariables false
set_option linter.unusedSimpArgs false

def ckSeg (fl m sc : Int) (l : List Int) : Int := if fl > 63 ∨ m < 0 ∨ m > 65535 ∨ sc < 0 ∨ sc > 15 then 1 else if (l.length : Int) > 65455 then 9 else 0
theorem segcheck_f (k : Nat) (a0 a1 a2 a3 fl a5 m sc : Int) (l : List Int) : seg_Check.f (k + 1) a0 a1 a2 a3 fl a5 m sc l = some (ckSeg fl m sc l) := by
  have hj : ∀ b : Bool, (b = true ↔ fl > 63 ∨ m < 0 ∨ m > 65535 ∨ sc < 0 ∨ sc > 15) → seg_Check.j0 (k + 1) b a0 a1 a2 a3 fl a5 m sc l = some (ckSeg fl m sc l) := by
    intro b hb
    simp only [seg_Check.j0]
    unfold ckSeg
    by_cases h : b = true
    · rw [if_pos h, if_pos (hb.1 h)]
    · rw [if_neg h, if_neg (fun x => h (hb.2 x))]
      split <;> rfl
  unfold seg_Check.f
  by_cases h1 : fl > 63
  · rw [if_pos h1]; exact hj _ ⟨fun _ => .inl h1, fun _ => decide_eq_true h1⟩
  rw [if_neg h1]
  by_cases h2 : m < 0
  · rw [if_pos h2]; exact hj _ ⟨fun _ => .inr (.inl h2), fun _ => rfl⟩
  rw [if_neg h2]
  by_cases h3 : m > 65535
  · rw [if_pos h3]; exact hj _ ⟨fun _ => .inr (.inr (.inl h3)), fun _ => decide_eq_true h3⟩
  rw [if_neg h3]
  by_cases h4 : sc < 0
  · rw [if_pos h4]; exact hj _ ⟨fun _ => .inr (.inr (.inr (.inl h4))), fun _ => rfl⟩
  rw [if_neg h4]; exact hj _ ⟨fun x => by have := of_decide_eq_true x; omega, fun x => decide_eq_true (by omega)⟩
theorem refsegcheck_f (k : Nat) (a0 a1 a2 a3 fl a5 m sc : Int) (l : List Int) : towroperef09_Check.f (k + 1) a0 a1 a2 a3 fl a5 m sc l = some (ckSeg fl m sc l) := by
  have hj : ∀ b : Bool, (b = true ↔ fl > 63 ∨ m < 0 ∨ m > 65535 ∨ sc < 0 ∨ sc > 15) → towroperef09_Check.j0 (k + 1) b a0 a1 a2 a3 fl a5 m sc l = some (ckSeg fl m sc l) := by
    intro b hb
    simp only [towroperef09_Check.j0]
    unfold ckSeg
    by_cases h : b = true
    · rw [if_pos h, if_pos (hb.1 h)]
    · rw [if_neg h, if_neg (fun x => h (hb.2 x))]
      split <;> rfl
  unfold towroperef09_Check.f
  by_cases h1 : fl > 63
  · rw [if_pos h1]; exact hj _ ⟨fun _ => .inl h1, fun _ => rfl⟩
  rw [if_neg h1]
  by_cases h2 : m < 0
  · rw [if_pos h2]; exact hj _ ⟨fun _ => .inr (.inl h2), fun _ => rfl⟩
  rw [if_neg h2]
  by_cases h3 : m > 65535
  · rw [if_pos h3]; exact hj _ ⟨fun _ => .inr (.inr (.inl h3)), fun _ => rfl⟩
  rw [if_neg h3]
  by_cases h4 : sc < 0
  · rw [if_pos h4]; exact hj _ ⟨fun _ => .inr (.inr (.inr (.inl h4))), fun _ => rfl⟩
  rw [if_neg h4]; exact hj _ ⟨fun x => by have := of_decide_eq_true x; omega, fun x => decide_eq_true (by omega)⟩

/-- A segment's first sixteen bytes, what is behind its check sum, the segment. -/
def preSeg (a0 a1 a2 a3 fl a5 : Int) (o : List Int) : List Int := twoS a0 ++ (twoS a1 ++ (fourS a2 ++ (fourS a3 ++ ([80 + 4 * (o.length : Int), fl] ++ twoS a5))))
def segC (s d a0 a1 a2 a3 fl a5 : Int) (o l : List Int) : Int := 65535 - sumW (headS s d 6 (((o.length + l.length + 20 : Nat)) : Int) ++ preSeg a0 a1 a2 a3 fl a5 o ++ ([0, 0] ++ ([0, 0] ++ (o ++ l))))
def segB (s d a0 a1 a2 a3 fl a5 : Int) (o l : List Int) : List Int := preSeg a0 a1 a2 a3 fl a5 o ++ (twoS (segC s d a0 a1 a2 a3 fl a5 o l) ++ ([0, 0] ++ (o ++ l)))
theorem preSeg_len (a0 a1 a2 a3 fl a5 : Int) (o : List Int) : (preSeg a0 a1 a2 a3 fl a5 o).length = 16 := rfl
theorem preSeg_bytes (a0 a1 a2 a3 fl a5 : Int) (o : List Int) (ho : o.length ≤ 8) (hf : 0 ≤ fl ∧ fl ≤ 63) : bytesB (preSeg a0 a1 a2 a3 fl a5 o) = true :=
  bytesB_append (twoS_bytes _) (bytesB_append (twoS_bytes _) (bytesB_append (fourS_bytes _) (bytesB_append (fourS_bytes _) (bytesB_append (bytesB_of fun x hx => by simp only [List.mem_cons, List.not_mem_nil, or_false] at hx; omega) (twoS_bytes _)))))
theorem segB_len (s d a0 a1 a2 a3 fl a5 : Int) (o l : List Int) : (segB s d a0 a1 a2 a3 fl a5 o l).length = o.length + l.length + 20 := by
  unfold segB
  rw [List.length_append, preSeg_len]
  simp only [twoS, List.length_append, List.length_cons, List.length_nil]
  omega
theorem segB_sum (s d a0 a1 a2 a3 fl a5 : Int) (o l : List Int) (ho : o.length ≤ 8) (hf : 0 ≤ fl ∧ fl ≤ 63) (hob : bytesB o = true) (hlb : bytesB l = true) :
    bytesB (segB s d a0 a1 a2 a3 fl a5 o l) = true ∧ ∃ u, 0 ≤ u ∧ tt (headS s d 6 (((o.length + l.length + 20 : Nat)) : Int) ++ segB s d a0 a1 a2 a3 fl a5 o l) = u + (65535 - norm u) ∧ sumW (headS s d 6 (((o.length + l.length + 20 : Nat)) : Int) ++ segB s d a0 a1 a2 a3 fl a5 o l) = 65535 := by
  have hp := preSeg_bytes a0 a1 a2 a3 fl a5 o ho hf
  have hz : bytesB ([0, 0] ++ (o ++ l)) = true := bytesB_append (by rfl) (bytesB_append hob hlb)
  have hA : bytesB (headS s d 6 (((o.length + l.length + 20 : Nat)) : Int) ++ preSeg a0 a1 a2 a3 fl a5 o) = true := bytesB_append (headS_bytes _ _ _ _ (by omega) (by omega)) hp
  refine ⟨bytesB_append hp (bytesB_append (twoS_bytes _) hz), ?_⟩
  have := ck_sum _ _ hA hz (by rw [List.length_append, headS_len, preSeg_len]) _ rfl
  unfold segB
  rw [← List.append_assoc]
  exact this
theorem segput_f (k : Nat) (s d a0 a1 a2 a3 fl a5 m sc : Int) (l : List Int) (s0 : 0 ≤ s ∧ s ≤ 4294967295) (d0 : 0 ≤ d ∧ d ≤ 4294967295) (h0 : 0 ≤ a0 ∧ a0 ≤ 65535) (h1 : 0 ≤ a1 ∧ a1 ≤ 65535) (h2 : 0 ≤ a2 ∧ a2 ≤ 4294967295) (h3 : 0 ≤ a3 ∧ a3 ≤ 4294967295) (hf : 0 ≤ fl) (h5 : 0 ≤ a5 ∧ a5 ≤ 65535)
    (hlb : bytesB l = true) (hc : ckSeg fl m sc l = 0) : seg_Put.f (k + 5) s d a0 a1 a2 a3 fl a5 m sc l = some (segB s d a0 a1 a2 a3 fl a5 (optB m sc) l, 0) := by
  have hcc := hc
  unfold ckSeg at hcc
  split at hcc
  · simp at hcc
  rename_i hbad
  split at hcc
  · simp at hcc
  rename_i hlong
  have hol := optB_len m sc
  have hob := optB_bytes m sc (by omega)
  unfold seg_Put.f
  rw [show k + 5 = k + 4 + 1 by omega, segcheck_f (k + 4), hc, Option.bind_some, if_pos rfl, show k + 4 + 1 = k + 2 + 3 by omega, options_f (k + 2) a0 a1 a2 a3 fl a5 m sc l (by omega) (by omega), Option.bind_some]
  generalize optB m sc = o at *
  rw [w64 (n := a0) (by omega) (by omega), w64 (n := a1) (by omega) (by omega), w64 (n := a5) (by omega) (by omega)]
  rw [put16_f (k + 2) [] a0 (by simp only [List.length_nil]; omega), Option.bind_some, put16_f (k + 2) _ a1 (by simp only [twoS, List.length_append, List.length_cons, List.length_nil]; omega), Option.bind_some]
  rw [show k + 2 + 3 = k + 5 by omega, put32_f k _ a2 h2.1 h2.2 (by simp only [twoS, List.length_append, List.length_cons, List.length_nil]; omega), Option.bind_some, put32_f k _ a3 h3.1 h3.2 (by simp only [twoS, fourS, List.length_append, List.length_cons, List.length_nil]; omega), Option.bind_some, Option.bind_some]
  rw [w64 (n := (o.length : Int) / 4) (by omega) (by omega), w64 (n := 5 + (o.length : Int) / 4) (by omega) (by omega), w64 (n := 16 * (5 + (o.length : Int) / 4)) (by omega) (by omega), show 16 * (5 + (o.length : Int) / 4) % 256 = 80 + 4 * (o.length : Int) by omega]
  rw [if_pos (by simp only [twoS, fourS, List.length_append, List.length_cons, List.length_nil]; omega), show k + 5 = k + 2 + 3 by omega, put16_f (k + 2) _ a5 (by simp only [twoS, fourS, List.length_append, List.length_cons, List.length_nil]; omega), Option.bind_some, Option.bind_some]
  have epre : [] ++ twoS a0 ++ twoS a1 ++ fourS a2 ++ fourS a3 ++ [80 + 4 * (o.length : Int), fl] ++ twoS a5 = preSeg a0 a1 a2 a3 fl a5 o := by
    unfold preSeg
    simp only [List.append_assoc, List.nil_append]
  rw [epre]
  have hpl := preSeg_len a0 a1 a2 a3 fl a5 o
  have hp := preSeg_bytes a0 a1 a2 a3 fl a5 o (by omega) (by omega)
  rw [if_pos (by rw [hpl]; simp only [List.length_cons, List.length_nil]; omega), Option.bind_some, if_pos (by rw [List.length_append, hpl]; simp only [List.length_cons, List.length_nil]; omega), Option.bind_some, if_pos (by rw [List.length_append, List.length_append, hpl]; simp only [List.length_cons, List.length_nil]; omega), Option.bind_some]
  have eraw : preSeg a0 a1 a2 a3 fl a5 o ++ [0, 0, 0, 0] ++ o ++ l = preSeg a0 a1 a2 a3 fl a5 o ++ ([0, 0] ++ ([0, 0] ++ (o ++ l))) := by
    simp only [List.append_assoc, List.cons_append, List.nil_append]
  rw [eraw]
  have hz : bytesB ([0, 0] ++ (o ++ l)) = true := bytesB_append (by rfl) (bytesB_append hob hlb)
  have hz2 : bytesB ([0, 0] ++ ([0, 0] ++ (o ++ l))) = true := bytesB_append (by rfl) hz
  have hrl : (preSeg a0 a1 a2 a3 fl a5 o ++ ([0, 0] ++ ([0, 0] ++ (o ++ l)))).length = o.length + l.length + 20 := by
    rw [List.length_append, hpl]
    simp only [List.length_append, List.length_cons, List.length_nil]
    omega
  rw [of_f s d 6 _ s0.1 s0.2 d0.1 d0.2 (by omega) (by omega) (by rw [hrl]; omega) (bytesB_append hp hz2), Option.bind_some, hrl]
  have ec : 65535 - sumW (headS s d 6 (((o.length + l.length + 20 : Nat)) : Int) ++ (preSeg a0 a1 a2 a3 fl a5 o ++ ([0, 0] ++ ([0, 0] ++ (o ++ l))))) = segC s d a0 a1 a2 a3 fl a5 o l := by
    unfold segC
    rw [List.append_assoc]
  rw [ec, put16_f (k + 2) [] _ (by simp only [List.length_nil]; omega), Option.bind_some, List.nil_append]
  have e2 : (twoS (segC s d a0 a1 a2 a3 fl a5 o l)).length = 2 := rfl
  rw [if_pos ⟨by rw [e2]; omega, by rw [e2]; omega⟩]
  have t1 : (preSeg a0 a1 a2 a3 fl a5 o ++ ([0, 0] ++ ([0, 0] ++ (o ++ l)))).take 16 = preSeg a0 a1 a2 a3 fl a5 o := List.take_left' hpl
  have t2 : (preSeg a0 a1 a2 a3 fl a5 o ++ ([0, 0] ++ ([0, 0] ++ (o ++ l)))).drop (16 + 2) = [0, 0] ++ (o ++ l) := by
    rw [← List.append_assoc]
    exact List.drop_left' (by rw [List.length_append, hpl]; rfl)
  unfold over
  rw [e2, t1, t2]
  unfold segB
  with_reducible rfl
end Go.Proofs.Ytilkbmjkjlbfmaa.PSegP
namespace Go.Proofs.Ytilkbmjkjlbfmaa.PSegP
open Go.RowKit Go.Proofs.Ytilkbmjkjlbfmaa.PSegP Go.Proofs.YtilkbmjkjlbfmaaW.PrintWords Go.Proofs.YtilkbmjkjlbfmaaW.PrintLast Go.Proofs.YtilkbmjkjlbfmaaW.PrintMore Go.Proofs.Ytilkbmjkjlbfmaa.Ar
set_option linter.unusedVariables false
set_option linter.unusedSimpArgs false

theorem seg_code (x : Int) : towropelaw09_code.f x = some x := rfl
theorem seg_live : ∀ k, towropelaw09_live.f (k + 10) = some true := by
  intro k
  induction k with
  | zero => decide +kernel
  | succ k ih => exact towropelaw09_live.mono (k + 10) true ih
def topT (l : List Int) : Int := 4 * (rd l 12 / 16)
theorem segsame_refl (a0 a1 a2 a3 a4 a5 a6 a7 : Int) (a : List Int) : towroperef09_Same.f a0 a1 a2 a3 a4 a5 a6 a7 a a0 a1 a2 a3 a4 a5 a6 a7 a = some true := by
  simp [towroperef09_Same.f]
end Go.Proofs.Ytilkbmjkjlbfmaa.PSegP
namespace Go.Proofs.Ytilkbmjkjlbfmaa.PSegP
open Go.RowKit Go.Proofs.YtilkbmjkjlbfmaaW.PrintWords Go.Proofs.YtilkbmjkjlbfmaaW.PrintLast Go.Proofs.YtilkbmjkjlbfmaaW.PrintMore Go.Proofs.Ytilkbmjkjlbfmaa.Ar Go.Proofs.Ytilkbmjkjlbfmaa.HSum
set_option linter.unusedVariables false
set_option linter.unusedSimpArgs false

def Bytes (l : List Int) : Prop := ∀ x ∈ l, 0 ≤ x ∧ x ≤ 255
theorem Bytes.at_ {l : List Int} (h : Bytes l) (i : Int) : 0 ≤ rd l i ∧ rd l i ≤ 255 := by
  unfold rd
  rw [List.getD_eq_getElem?_getD]
  rcases Nat.lt_or_ge i.toNat l.length with hi | hi
  · rw [List.getElem?_eq_getElem hi]
    exact h _ (List.getElem_mem hi)
  · rw [List.getElem?_eq_none hi]
    simp

/-- The bytes from a place on, or the error's number. -/
def viewS (l : List Int) (at_ n : Int) : List Int × Int :=
  if at_ < 0 ∨ at_ > l.length then ([], 8) else if n < 0 then ([], 1) else if n > l.length - at_ then ([], 2) else ((l.take (at_ + n).toNat).drop at_.toNat, 0)

theorem view_f (k : Nat) (l : List Int) (i n : Int) (hl : l.length ≤ 140737488351232) (i0 : -9223372036854775808 ≤ i) (i1 : i ≤ 9223372036854775807) (n0 : -9223372036854775808 ≤ n) (n1 : n ≤ 9223372036854775807) :
    octet_view.f (k + 1) l i n = some (viewS l i n) := by
  have hj : ∀ b : Bool, (b = true ↔ (i < 0 ∨ i > l.length)) → octet_view.j0 (k + 1) l i n b = some (viewS l i n) := by
    intro b hb
    simp only [octet_view.j0]
    unfold viewS
    by_cases h : i < 0 ∨ i > l.length
    · rw [if_pos (hb.2 h), if_pos h]
    · rw [if_neg (fun hh => h (hb.1 hh)), if_neg h, w64 (n := (l.length : Int) - i) (by omega) (by omega)]
      by_cases h1 : n < 0
      · rw [if_pos h1, if_pos h1]
      · rw [if_neg h1, if_neg h1]
        by_cases h2 : n > l.length - i
        · rw [if_pos h2, if_pos h2]
        · rw [if_neg h2, if_neg h2, w64 (n := i + n) (by omega) (by omega), if_pos (by omega), if_pos (by omega), if_pos (by omega)]
  unfold octet_view.f
  split
  · rename_i h
    exact hj true ⟨fun _ => .inl h, fun _ => rfl⟩
  · rename_i h
    exact hj _ ⟨fun hh => .inr (of_decide_eq_true hh), fun hh => decide_eq_true (hh.resolve_left h)⟩

theorem viewS_bytes {l : List Int} (h : Bytes l) (i n : Int) : Bytes (viewS l i n).1 := by
  unfold viewS
  repeat' split
  all_goals first | (intro x hx; cases hx) | (intro x hx; exact h x (List.mem_of_mem_take (List.mem_of_mem_drop hx)))

/-! ### numbers read -/
theorem or8 (x b : Int) (x0 : 0 ≤ x) (x1 : x ≤ 16777215) (b0 : 0 ≤ b) (b1 : b ≤ 255) : Go.bits .or .u64 (IntKind.u64.wrap (x * 256)) (IntKind.u64.wrap b) = x * 256 + b := by
  rw [u64w, u64w, show (x * 256) % 18446744073709551616 = x * 256 by omega, show b % 18446744073709551616 = b by omega]
  exact bits_join .u64 64 (by decide) (fun n h0 h1 => by rw [u64w]; omega) 8 (x * 256) b (by omega) (by omega) (by omega) b0 (by omega) (by omega)

/-- 256 n + b, byte by byte. -/
def numF (n : Int) (l : List Int) : Int := l.foldl (fun n b => 256 * n + b) n
def getS (l : List Int) (i n : Int) : Int × Int := (numF 0 (viewS l i n).1, (viewS l i n).2)

theorem numF_bd (l : List Int) (h : Bytes l) : ∀ n : Int, 0 ≤ n → 0 ≤ numF n l ∧ numF n l < (n + 1) * 256 ^ l.length := by
  induction l with
  | nil => intro n h0; simp [numF]; omega
  | cons b l ih =>
    intro n h0
    have hb := h b List.mem_cons_self
    obtain ⟨h1, h2⟩ := ih (fun x hx => h x (List.mem_cons_of_mem _ hx)) (256 * n + b) (by omega)
    refine ⟨h1, Int.lt_of_lt_of_le h2 ?_⟩
    have hp : (0 : Int) ≤ 256 ^ l.length := Int.pow_nonneg (by decide)
    have : (256 * n + b + 1) * 256 ^ l.length ≤ ((n + 1) * 256) * 256 ^ l.length := Int.mul_le_mul_of_nonneg_right (by omega) hp
    rw [List.length_cons, Int.pow_succ, Int.mul_comm (256 ^ l.length) 256, ← Int.mul_assoc]
    exact this

theorem drop_cons (l : List Int) (i : Nat) (h : i < l.length) : l.drop i = rd l i :: l.drop (i + 1) := by
  rw [List.drop_eq_getElem_cons h]
  congr 1
  unfold rd
  rw [Int.toNat_natCast, List.getD_eq_getElem?_getD, List.getElem?_eq_getElem h]
  rfl

theorem get_loop (e : Int) (v : List Int) (hv : Bytes v) (hl : v.length ≤ 4) : ∀ (d i k : Nat) (acc : Int), i + d = v.length → d < k → 0 ≤ acc → acc < 256 ^ i → octet_get.l0 k e acc v v.length i = some (numF acc (v.drop i), e) := by
  intro d
  induction d with
  | zero =>
    intro i k acc hi hk _ _
    obtain ⟨k, rfl⟩ : ∃ m, k = m + 1 := ⟨k - 1, by omega⟩
    simp only [octet_get.l0]
    rw [if_neg (by omega), List.drop_of_length_le (by omega)]
    rfl
  | succ d ih =>
    intro i k acc hi hk h0 h1
    obtain ⟨k, rfl⟩ : ∃ m, k = m + 1 := ⟨k - 1, by omega⟩
    have hr := hv.at_ (i : Int)
    have hp : (256 : Int) ^ i ≤ 16777216 := by
      have : i ≤ 3 := by omega
      rcases (by omega : i = 0 ∨ i = 1 ∨ i = 2 ∨ i = 3) with rfl | rfl | rfl | rfl <;> decide
    simp only [octet_get.l0]
    rw [if_pos (by omega), if_pos (by omega), if_pos (by omega), or8 _ _ h0 (by omega) hr.1 hr.2, w64 (by omega) (by omega)]
    have := ih (i + 1) k (acc * 256 + rd v i) (by omega) (by omega) (by omega) (by rw [Int.pow_succ]; omega)
    rw [show ((i : Int) + 1) = ((i + 1 : Nat) : Int) from rfl, this, drop_cons v i (by omega)]
    simp only [numF, List.foldl_cons]
    rw [Int.mul_comm]

theorem viewS_four (l : List Int) (i n : Int) (h : n ≤ 4) : (viewS l i n).1.length ≤ 4 := by
  unfold viewS
  repeat' split
  all_goals simp
  all_goals omega

theorem get_f (k : Nat) (l : List Int) (i n : Int) (hB : Bytes l) (hl : l.length ≤ 140737488351232) (i0 : -9223372036854775808 ≤ i) (i1 : i ≤ 9223372036854775807) (n0 : 0 ≤ n) (n1 : n ≤ 4) :
    octet_get.f (k + 5) l i n = some (getS l i n) := by
  unfold octet_get.f
  rw [view_f (k + 4) l i n hl i0 i1 (by omega) (by omega)]
  simp only [Option.bind_some]
  have h4 := viewS_four l i n n1
  have := get_loop (viewS l i n).2 (viewS l i n).1 (viewS_bytes hB i n) h4 (viewS l i n).1.length 0 (k + 5) 0 (by omega) (by omega) (by omega) (by simp)
  rw [List.drop_zero] at this
  exact this

theorem getS_bd (l : List Int) (hB : Bytes l) (i n : Int) : 0 ≤ (getS l i n).1 ∧ (getS l i n).1 < 256 ^ (viewS l i n).1.length := by
  have := numF_bd _ (viewS_bytes hB i n) 0 (by omega)
  rw [Int.zero_add, Int.one_mul] at this
  exact this
theorem viewS_len_n (l : List Int) (i n : Int) (h : 0 ≤ n) : (viewS l i n).1.length ≤ n.toNat := by
  unfold viewS
  repeat' split
  all_goals simp
  all_goals omega
theorem pow_le256 {a b : Nat} (h : a ≤ b) : (256 : Int) ^ a ≤ 256 ^ b := by
  have e : ∀ c : Nat, ((256 ^ c : Nat) : Int) = (256 : Int) ^ c := fun c => Int.natCast_pow 256 c
  rw [← e, ← e]
  exact Int.ofNat_le.2 (Nat.pow_le_pow_right (by decide) h)

theorem get16_f (k : Nat) (l : List Int) (i : Int) (hB : Bytes l) (hl : l.length ≤ 140737488351232) (i0 : -9223372036854775808 ≤ i) (i1 : i ≤ 9223372036854775807) :
    octet_Get16.f (k + 5) l i = some (getS l i 2) := by
  unfold octet_Get16.f
  rw [get_f k l i 2 hB hl i0 i1 (by omega) (by omega)]
  simp only [Option.bind_some]
  have := getS_bd l hB i 2
  have h2 := pow_le256 (viewS_len_n l i 2 (by omega))
  rw [w64 (by omega) (by have : (256 : Int) ^ (2 : Int).toNat = 65536 := by decide
                         omega)]
theorem get32_f (k : Nat) (l : List Int) (i : Int) (hB : Bytes l) (hl : l.length ≤ 140737488351232) (i0 : -9223372036854775808 ≤ i) (i1 : i ≤ 9223372036854775807) :
    octet_Get32.f (k + 5) l i = some (getS l i 4) := by
  unfold octet_Get32.f
  rw [get_f k l i 4 hB hl i0 i1 (by omega) (by omega)]
  simp only [Option.bind_some]
  have := getS_bd l hB i 4
  have h2 := pow_le256 (viewS_len_n l i 4 (by omega))
  have h3 : (256 : Int) ^ (4 : Int).toNat = 4294967296 := by decide
  rw [show (getS l i 4).1 % 4294967296 = (getS l i 4).1 by omega]

/-! ### the reference's number -/
theorem rd_view (l : List Int) (i n j : Nat) (h : i + n ≤ l.length) (hj : j < n) : rd ((l.take (i + n)).drop i) j = rd l ((i + j : Nat) : Int) := by
  unfold rd
  simp only [Int.toNat_natCast]
  rw [List.getD_eq_getElem?_getD, List.getD_eq_getElem?_getD, List.getElem?_drop, List.getElem?_take, if_pos (by omega)]

theorem getS_four (l : List Int) (i n : Nat) (h : i + n ≤ l.length) : getS l i n = (numF 0 ((l.take (i + n)).drop i), 0) := by
  unfold getS viewS
  rw [if_neg (by omega), if_neg (by omega), if_neg (by omega)]
  rfl
/-- Two bytes as a number. -/
def w2 (l : List Int) (i : Int) : Int := 256 * rd l i + rd l (i + 1)
theorem view_two (l : List Int) (i : Nat) (h : i + 2 ≤ l.length) : (l.take (i + 2)).drop i = [rd l i, rd l ((i + 1 : Nat) : Int)] := by
  have hv : ((l.take (i + 2)).drop i).length = 2 := by rw [List.length_drop, List.length_take]; omega
  have h0 := rd_view l i 2 0 h (by omega)
  have h1 := rd_view l i 2 1 h (by omega)
  generalize (l.take (i + 2)).drop i = v at *
  match v, hv with
  | [a, b], _ =>
    have e0 : a = rd l ((i + 0 : Nat) : Int) := h0
    have e1 : b = rd l ((i + 1 : Nat) : Int) := h1
    rw [e0, e1]
    rfl
theorem view_four (l : List Int) (i : Nat) (h : i + 4 ≤ l.length) : (l.take (i + 4)).drop i = [rd l i, rd l ((i + 1 : Nat) : Int), rd l ((i + 2 : Nat) : Int), rd l ((i + 3 : Nat) : Int)] := by
  have hv : ((l.take (i + 4)).drop i).length = 4 := by rw [List.length_drop, List.length_take]; omega
  have h0 := rd_view l i 4 0 h (by omega)
  have h1 := rd_view l i 4 1 h (by omega)
  have h2 := rd_view l i 4 2 h (by omega)
  have h3 := rd_view l i 4 3 h (by omega)
  generalize (l.take (i + 4)).drop i = v at *
  match v, hv with
  | [a, b, c, d], _ =>
    have e0 : a = rd l ((i + 0 : Nat) : Int) := h0
    have e1 : b = rd l ((i + 1 : Nat) : Int) := h1
    have e2 : c = rd l ((i + 2 : Nat) : Int) := h2
    have e3 : d = rd l ((i + 3 : Nat) : Int) := h3
    rw [e0, e1, e2, e3]
    rfl
theorem getS2 (l : List Int) (i : Nat) (h : i + 2 ≤ l.length) : getS l i 2 = (w2 l i, 0) := by
  rw [show (2 : Int) = ((2 : Nat) : Int) from rfl, getS_four l i 2 h, view_two l i h]
  unfold numF w2
  simp only [List.foldl_cons, List.foldl_nil]
  rw [show ((i : Int) + 1) = ((i + 1 : Nat) : Int) by omega, show 256 * (256 * 0 + rd l i) = 256 * rd l i by omega]
theorem getS4 (l : List Int) (i : Nat) (h : i + 4 ≤ l.length) : getS l i 4 = (65536 * w2 l i + w2 l ((i + 2 : Nat) : Int), 0) := by
  rw [show (4 : Int) = ((4 : Nat) : Int) from rfl, getS_four l i 4 h, view_four l i h]
  unfold numF w2
  simp only [List.foldl_cons, List.foldl_nil]
  rw [show ((i : Int) + 1) = ((i + 1 : Nat) : Int) by omega, show (((i + 2 : Nat) : Int) + 1) = ((i + 3 : Nat) : Int) by omega]
  congr 1
  omega
theorem w2_bd (l : List Int) (hB : Bytes l) (i : Int) : 0 ≤ w2 l i ∧ w2 l i ≤ 65535 := by
  have := hB.at_ i
  have := hB.at_ (i + 1)
  unfold w2
  omega
end Go.Proofs.Ytilkbmjkjlbfmaa.PSegP
namespace Go.Proofs.Ytilkbmjkjlbfmaa.PSegP
open Go.RowKit Go.Proofs.Ytilkbmjkjlbfmaa.PSegP Go.Proofs.YtilkbmjkjlbfmaaW.PrintWords Go.Proofs.YtilkbmjkjlbfmaaW.PrintLast Go.Proofs.YtilkbmjkjlbfmaaW.PrintMore Go.Proofs.Ytilkbmjkjlbfmaa.Ar Go.Proofs.Ytilkbmjkjlbfmaa.HSum Go.Proofs.Ytilkbmjkjlbfmaa.HExt Go.Proofs.Ytilkbmjkjlbfmaa.HRead
set_option linter.unusedVariables false
set_option linter.unusedSimpArgs false

def gOpt : List Int → Option (Int × Int) := fun l => octet_Get16.f 8 l 2
theorem gOpt_f (l : List Int) (hB : Bytes l) (h4 : 4 ≤ l.length) (hl : l.length ≤ 140737488351232) : gOpt l = some (256 * rd l 2 + rd l 3, 0) := by
  unfold gOpt
  rw [get16_f 3 l 2 hB hl (by omega) (by omega)]
  exact congrArg some (getS2 l 2 (by omega))
theorem tail_read (k : Nat) (m s : Int) (s0 : 0 ≤ s ∧ s ≤ 15) : readF gOpt (k + 3) (if s = 0 then [] else [1, 3, 3, s - 1]) m 0 = some (m, s, 0) := by
  by_cases hs : s = 0
  · rw [if_pos hs, hs]; rfl
  · rw [if_neg hs]
    have e : 1 + mn (s - 1) 14 = s := by unfold mn; split <;> omega
    show readF gOpt (k + 1) [] m (1 + mn (s - 1) 14) = _
    rw [e]
    rfl
theorem read_opt (m s : Int) (m0 : 0 ≤ m ∧ m ≤ 65535) (s0 : 0 ≤ s ∧ s ≤ 15) : seg_Read.f (optB m s) = some (m, s, 0) := by
  have hb := optB_bytes m s s0
  have hl := optB_len m s
  unfold seg_Read.f
  rw [if_pos ⟨hb, by omega⟩]
  show readF gOpt _ _ _ _ = _
  by_cases hm : m = 0
  · have e : optB m s = (if s = 0 then [] else [1, 3, 3, s - 1]) := by unfold optB; rw [if_pos hm]; rfl
    rw [e, hm]
    by_cases hs : s = 0
    · rw [if_pos hs, hs]; rfl
    · have := tail_read 2 0 s s0
      rw [if_neg hs] at this ⊢
      exact this
  · have e : optB m s = [2, 4, m % 65536 / 256, m % 256] ++ (if s = 0 then [] else [1, 3, 3, s - 1]) := by unfold optB twoS; rw [if_neg hm]; rfl
    have hB : Bytes (optB m s) := fun x hx => bytesB_mem hb hx
    have h4 : 4 ≤ (optB m s).length := by rw [e]; simp only [List.length_append, List.length_cons, List.length_nil]; omega
    have hg := gOpt_f _ hB h4 (by omega)
    obtain ⟨q, hq⟩ : ∃ q, (optB m s).length = q + 4 := ⟨(optB m s).length - 4, by omega⟩
    rw [hq, show q + 4 + 1 = q + 1 + 3 + 1 by omega]
    rw [e] at hg ⊢
    show (gOpt ([2, 4, m % 65536 / 256, m % 256] ++ (if s = 0 then [] else [1, 3, 3, s - 1]))).bind (fun p => readF gOpt (q + 1 + 3) (if s = 0 then [] else [1, 3, 3, s - 1]) p.1 0) = _
    rw [hg, Option.bind_some]
    have e2 : 256 * rd ([2, 4, m % 65536 / 256, m % 256] ++ (if s = 0 then [] else [1, 3, 3, s - 1])) 2 + rd ([2, 4, m % 65536 / 256, m % 256] ++ (if s = 0 then [] else [1, 3, 3, s - 1])) 3 = m := by
      show 256 * (m % 65536 / 256) + m % 256 = m
      omega
    show readF gOpt (q + 1 + 3) _ (256 * rd _ 2 + rd _ 3) 0 = _
    rw [e2]
    exact tail_read (q + 1) m s s0
end Go.Proofs.Ytilkbmjkjlbfmaa.PSegP
namespace Go.Proofs.Ytilkbmjkjlbfmaa.PSegP
open Go.RowKit Go.Proofs.Ytilkbmjkjlbfmaa.PSegP Go.Proofs.YtilkbmjkjlbfmaaW.PrintWords Go.Proofs.YtilkbmjkjlbfmaaW.PrintLast Go.Proofs.YtilkbmjkjlbfmaaW.PrintMore Go.Proofs.Ytilkbmjkjlbfmaa.Ar Go.Proofs.Ytilkbmjkjlbfmaa.HSum Go.Proofs.Ytilkbmjkjlbfmaa.HExt Go.Proofs.Ytilkbmjkjlbfmaa.HRead
set_option linter.unusedVariables false
set_option linter.unusedSimpArgs false
theorem and63 : ∀ n : Nat, n < 256 → Go.bits .and .u8 (n : Int) 63 = (n : Int) % 64 := by decide +kernel
theorem and63' (x : Int) (h : 0 ≤ x ∧ x ≤ 255) : Go.bits .and .u8 x 63 = x % 64 := by
  have := and63 x.toNat (by omega)
  rwa [Int.toNat_of_nonneg h.1] at this
theorem wrap16 (x : Int) (h : 0 ≤ x ∧ x ≤ 65535) : IntKind.u16.wrap x = x := by rw [u16w]; omega
end Go.Proofs.Ytilkbmjkjlbfmaa.PSegP
namespace Go.Proofs.Ytilkbmjkjlbfmaa.PSegP
open Go.RowKit Go.Proofs.Ytilkbmjkjlbfmaa.PSegP Go.Proofs.YtilkbmjkjlbfmaaW.PrintWords Go.Proofs.YtilkbmjkjlbfmaaW.PrintLast Go.Proofs.YtilkbmjkjlbfmaaW.PrintMore Go.Proofs.Ytilkbmjkjlbfmaa.Ar Go.Proofs.Ytilkbmjkjlbfmaa.HSum Go.Proofs.Ytilkbmjkjlbfmaa.HExt Go.Proofs.Ytilkbmjkjlbfmaa.HRead
set_option linter.unusedVariables false
set_option linter.unusedSimpArgs false

theorem consSeg (a0 a1 a2 a3 fl a5 c : Int) (o l : List Int) : preSeg a0 a1 a2 a3 fl a5 o ++ (twoS c ++ ([0, 0] ++ (o ++ l))) =
    a0 % 65536 / 256 :: a0 % 256 :: a1 % 65536 / 256 :: a1 % 256 :: a2 / 16777216 % 256 :: a2 / 65536 % 256 :: a2 / 256 % 256 :: a2 % 256 :: a3 / 16777216 % 256 :: a3 / 65536 % 256 :: a3 / 256 % 256 :: a3 % 256 ::
      (80 + 4 * (o.length : Int)) :: fl :: a5 % 65536 / 256 :: a5 % 256 :: c % 65536 / 256 :: c % 256 :: 0 :: 0 :: (o ++ l) := rfl
theorem segget_good (k : Nat) (s d m sc : Int) (l : List Int) (s0 : 0 ≤ s ∧ s ≤ 4294967295) (d0 : 0 ≤ d ∧ d ≤ 4294967295) (h : bytesB l = true) (hl : l.length ≤ 70000) (h2 : 20 ≤ topT l) (h3 : topT l ≤ (l.length : Int)) (h4 : sumW (headS s d 6 l.length ++ l) = 65535)
    (hr : seg_Read.f ((l.take (topT l).toNat).drop 20) = some (m, sc, 0)) : seg_Get.f (k + 5) s d l = some (w2 l 0, w2 l 2, 65536 * w2 l 4 + w2 l 6, 65536 * w2 l 8 + w2 l 10, rd l 13 % 64, w2 l 14, m, sc, l.drop (topT l).toNat, 0) := by
  have hB : Bytes l := fun x hx => bytesB_mem h hx
  have b12 := hB.at_ 12
  have b13 := hB.at_ 13
  have ht : 4 * (rd l 12 / 16) = topT l := rfl
  have g0 : getS l 0 2 = (w2 l 0, 0) := getS2 l 0 (by omega)
  have g2 : getS l 2 2 = (w2 l 2, 0) := getS2 l 2 (by omega)
  have g14 : getS l 14 2 = (w2 l 14, 0) := getS2 l 14 (by omega)
  have g4 : getS l 4 4 = (65536 * w2 l 4 + w2 l 6, 0) := getS4 l 4 (by omega)
  have g8 : getS l 8 4 = (65536 * w2 l 8 + w2 l 10, 0) := getS4 l 8 (by omega)
  have q0 := w2_bd l hB 0; have q2 := w2_bd l hB 2; have q14 := w2_bd l hB 14
  unfold seg_Get.f
  rw [if_neg (by omega), if_pos (by omega), w64 (n := rd l 12 / 16) (by omega) (by omega), w64 (n := 4 * (rd l 12 / 16)) (by omega) (by omega), ht, if_neg (by omega), if_neg (by omega), of_f s d 6 l s0.1 s0.2 d0.1 d0.2 (by omega) (by omega) (by omega) h, Option.bind_some, h4, if_pos (by omega), if_pos (by omega), if_pos (by omega), hr, Option.bind_some]
  dsimp only
  rw [if_pos rfl, get16_f k l 0 hB (by omega) (by omega) (by omega), Option.bind_some, get16_f k l 2 hB (by omega) (by omega) (by omega), Option.bind_some, get16_f k l 14 hB (by omega) (by omega) (by omega), Option.bind_some,
    if_pos (by omega), if_pos (by omega), clone_f _ (by rw [List.length_drop]; omega), Option.bind_some, get32_f k l 4 hB (by omega) (by omega) (by omega), Option.bind_some, get32_f k l 8 hB (by omega) (by omega) (by omega), Option.bind_some, g0, g2, g14, g4, g8, and63' _ b13]
  dsimp only
  rw [wrap16 _ q0, wrap16 _ q2, wrap16 _ q14]
theorem segGot (k : Nat) (s d a0 a1 a2 a3 fl a5 m sc : Int) (l : List Int) (q0 : 0 ≤ s ∧ s ≤ 4294967295) (d0 : 0 ≤ d ∧ d ≤ 4294967295) (h0 : 0 ≤ a0 ∧ a0 ≤ 65535) (h1 : 0 ≤ a1 ∧ a1 ≤ 65535) (h2 : 0 ≤ a2 ∧ a2 ≤ 4294967295) (h3 : 0 ≤ a3 ∧ a3 ≤ 4294967295) (hf : 0 ≤ fl ∧ fl ≤ 63) (h5 : 0 ≤ a5 ∧ a5 ≤ 65535)
    (m0 : 0 ≤ m ∧ m ≤ 65535) (s0 : 0 ≤ sc ∧ sc ≤ 15) (hlb : bytesB l = true) (hl : l.length ≤ 69000) : seg_Get.f (k + 5) s d (segB s d a0 a1 a2 a3 fl a5 (optB m sc) l) = some (a0, a1, a2, a3, fl, a5, m, sc, l, 0) := by
  obtain ⟨ho, ho4⟩ := optB_len m sc
  have hlen := segB_len s d a0 a1 a2 a3 fl a5 (optB m sc) l
  obtain ⟨hbb, u, u0, hu, hs⟩ := segB_sum s d a0 a1 a2 a3 fl a5 (optB m sc) l ho hf (optB_bytes m sc s0) hlb
  have hr := read_opt m sc m0 s0
  have hfm : fl % 64 = fl := by omega
  unfold segB at *
  generalize segC s d a0 a1 a2 a3 fl a5 (optB m sc) l = c at *
  generalize optB m sc = o at *
  rw [consSeg] at *
  have e0 : w2 (a0 % 65536 / 256 :: a0 % 256 :: a1 % 65536 / 256 :: a1 % 256 :: a2 / 16777216 % 256 :: a2 / 65536 % 256 :: a2 / 256 % 256 :: a2 % 256 :: a3 / 16777216 % 256 :: a3 / 65536 % 256 :: a3 / 256 % 256 :: a3 % 256 :: (80 + 4 * (o.length : Int)) :: fl :: a5 % 65536 / 256 :: a5 % 256 :: c % 65536 / 256 :: c % 256 :: 0 :: 0 :: (o ++ l)) 0 = a0 := by
    show 256 * (a0 % 65536 / 256) + a0 % 256 = a0; omega
  have e2 : w2 (a0 % 65536 / 256 :: a0 % 256 :: a1 % 65536 / 256 :: a1 % 256 :: a2 / 16777216 % 256 :: a2 / 65536 % 256 :: a2 / 256 % 256 :: a2 % 256 :: a3 / 16777216 % 256 :: a3 / 65536 % 256 :: a3 / 256 % 256 :: a3 % 256 :: (80 + 4 * (o.length : Int)) :: fl :: a5 % 65536 / 256 :: a5 % 256 :: c % 65536 / 256 :: c % 256 :: 0 :: 0 :: (o ++ l)) 2 = a1 := by
    show 256 * (a1 % 65536 / 256) + a1 % 256 = a1; omega
  have e4 : 65536 * w2 (a0 % 65536 / 256 :: a0 % 256 :: a1 % 65536 / 256 :: a1 % 256 :: a2 / 16777216 % 256 :: a2 / 65536 % 256 :: a2 / 256 % 256 :: a2 % 256 :: a3 / 16777216 % 256 :: a3 / 65536 % 256 :: a3 / 256 % 256 :: a3 % 256 :: (80 + 4 * (o.length : Int)) :: fl :: a5 % 65536 / 256 :: a5 % 256 :: c % 65536 / 256 :: c % 256 :: 0 :: 0 :: (o ++ l)) 4 + w2 (a0 % 65536 / 256 :: a0 % 256 :: a1 % 65536 / 256 :: a1 % 256 :: a2 / 16777216 % 256 :: a2 / 65536 % 256 :: a2 / 256 % 256 :: a2 % 256 :: a3 / 16777216 % 256 :: a3 / 65536 % 256 :: a3 / 256 % 256 :: a3 % 256 :: (80 + 4 * (o.length : Int)) :: fl :: a5 % 65536 / 256 :: a5 % 256 :: c % 65536 / 256 :: c % 256 :: 0 :: 0 :: (o ++ l)) 6 = a2 := by
    show 65536 * (256 * (a2 / 16777216 % 256) + a2 / 65536 % 256) + (256 * (a2 / 256 % 256) + a2 % 256) = a2; omega
  have e8 : 65536 * w2 (a0 % 65536 / 256 :: a0 % 256 :: a1 % 65536 / 256 :: a1 % 256 :: a2 / 16777216 % 256 :: a2 / 65536 % 256 :: a2 / 256 % 256 :: a2 % 256 :: a3 / 16777216 % 256 :: a3 / 65536 % 256 :: a3 / 256 % 256 :: a3 % 256 :: (80 + 4 * (o.length : Int)) :: fl :: a5 % 65536 / 256 :: a5 % 256 :: c % 65536 / 256 :: c % 256 :: 0 :: 0 :: (o ++ l)) 8 + w2 (a0 % 65536 / 256 :: a0 % 256 :: a1 % 65536 / 256 :: a1 % 256 :: a2 / 16777216 % 256 :: a2 / 65536 % 256 :: a2 / 256 % 256 :: a2 % 256 :: a3 / 16777216 % 256 :: a3 / 65536 % 256 :: a3 / 256 % 256 :: a3 % 256 :: (80 + 4 * (o.length : Int)) :: fl :: a5 % 65536 / 256 :: a5 % 256 :: c % 65536 / 256 :: c % 256 :: 0 :: 0 :: (o ++ l)) 10 = a3 := by
    show 65536 * (256 * (a3 / 16777216 % 256) + a3 / 65536 % 256) + (256 * (a3 / 256 % 256) + a3 % 256) = a3; omega
  have e12 : topT (a0 % 65536 / 256 :: a0 % 256 :: a1 % 65536 / 256 :: a1 % 256 :: a2 / 16777216 % 256 :: a2 / 65536 % 256 :: a2 / 256 % 256 :: a2 % 256 :: a3 / 16777216 % 256 :: a3 / 65536 % 256 :: a3 / 256 % 256 :: a3 % 256 :: (80 + 4 * (o.length : Int)) :: fl :: a5 % 65536 / 256 :: a5 % 256 :: c % 65536 / 256 :: c % 256 :: 0 :: 0 :: (o ++ l)) = 20 + (o.length : Int) := by
    show 4 * ((80 + 4 * (o.length : Int)) / 16) = _; omega
  have e13 : rd (a0 % 65536 / 256 :: a0 % 256 :: a1 % 65536 / 256 :: a1 % 256 :: a2 / 16777216 % 256 :: a2 / 65536 % 256 :: a2 / 256 % 256 :: a2 % 256 :: a3 / 16777216 % 256 :: a3 / 65536 % 256 :: a3 / 256 % 256 :: a3 % 256 :: (80 + 4 * (o.length : Int)) :: fl :: a5 % 65536 / 256 :: a5 % 256 :: c % 65536 / 256 :: c % 256 :: 0 :: 0 :: (o ++ l)) 13 = fl := rfl
  have e14 : w2 (a0 % 65536 / 256 :: a0 % 256 :: a1 % 65536 / 256 :: a1 % 256 :: a2 / 16777216 % 256 :: a2 / 65536 % 256 :: a2 / 256 % 256 :: a2 % 256 :: a3 / 16777216 % 256 :: a3 / 65536 % 256 :: a3 / 256 % 256 :: a3 % 256 :: (80 + 4 * (o.length : Int)) :: fl :: a5 % 65536 / 256 :: a5 % 256 :: c % 65536 / 256 :: c % 256 :: 0 :: 0 :: (o ++ l)) 14 = a5 := by
    show 256 * (a5 % 65536 / 256) + a5 % 256 = a5; omega
  have et : ((a0 % 65536 / 256 :: a0 % 256 :: a1 % 65536 / 256 :: a1 % 256 :: a2 / 16777216 % 256 :: a2 / 65536 % 256 :: a2 / 256 % 256 :: a2 % 256 :: a3 / 16777216 % 256 :: a3 / 65536 % 256 :: a3 / 256 % 256 :: a3 % 256 :: (80 + 4 * (o.length : Int)) :: fl :: a5 % 65536 / 256 :: a5 % 256 :: c % 65536 / 256 :: c % 256 :: 0 :: 0 :: (o ++ l)).take (20 + (o.length : Int)).toNat).drop 20 = o := by
    rw [show (20 + (o.length : Int)).toNat = o.length + 20 by omega]
    show ((o ++ l).take o.length) = _
    rw [List.take_left']
    rfl
  have ed : (a0 % 65536 / 256 :: a0 % 256 :: a1 % 65536 / 256 :: a1 % 256 :: a2 / 16777216 % 256 :: a2 / 65536 % 256 :: a2 / 256 % 256 :: a2 % 256 :: a3 / 16777216 % 256 :: a3 / 65536 % 256 :: a3 / 256 % 256 :: a3 % 256 :: (80 + 4 * (o.length : Int)) :: fl :: a5 % 65536 / 256 :: a5 % 256 :: c % 65536 / 256 :: c % 256 :: 0 :: 0 :: (o ++ l)).drop (20 + (o.length : Int)).toNat = l := by
    rw [show (20 + (o.length : Int)).toNat = o.length + 20 by omega]
    show ((o ++ l).drop o.length) = _
    rw [List.drop_left']
    rfl
  generalize a0 % 65536 / 256 :: a0 % 256 :: a1 % 65536 / 256 :: a1 % 256 :: a2 / 16777216 % 256 :: a2 / 65536 % 256 :: a2 / 256 % 256 :: a2 % 256 :: a3 / 16777216 % 256 :: a3 / 65536 % 256 :: a3 / 256 % 256 :: a3 % 256 :: (80 + 4 * (o.length : Int)) :: fl :: a5 % 65536 / 256 :: a5 % 256 :: c % 65536 / 256 :: c % 256 :: 0 :: 0 :: (o ++ l) = b at *
  rw [segget_good k s d m sc b q0 d0 hbb (by omega) (by omega) (by omega) (by rw [hlen]; exact hs) (by rw [e12, et]; exact hr), e12, e0, e2, e4, e8, e13, e14, ed, hfm]
end Go.Proofs.Ytilkbmjkjlbfmaa.PSegP
namespace Go.Proofs.Ytilkbmjkjlbfmaa.Pure
open Go.RowKit Go.Proofs.Ytilkbmjkjlbfmaa.PSegP Go.Proofs.YtilkbmjkjlbfmaaW.PrintWords Go.Proofs.YtilkbmjkjlbfmaaW.PrintLast Go.Proofs.YtilkbmjkjlbfmaaW.PrintMore Go.Proofs.Ytilkbmjkjlbfmaa.Ar Go.Proofs.Ytilkbmjkjlbfmaa.HSum Go.Proofs.Ytilkbmjkjlbfmaa.HExt
set_option linter.unusedVariables false
set_option linter.unusedSimpArgs false

theorem refopt_f (m s : Int) (m0 : 0 ≤ m ∧ m ≤ 65535) (s0 : 0 ≤ s ∧ s ≤ 15) : towroperef09_Options.f m s = some (optB m s) := by
  have e : s ≠ 0 → wrap64 (s - 1) % 256 = s - 1 := fun h => by rw [w64 (by omega) (by omega)]; omega
  unfold towroperef09_Options.f optB
  by_cases hm : m = 0
  · rw [if_neg (by omega), if_pos hm]
    by_cases hs : s = 0
    · rw [if_neg (by omega), if_pos hs]; rfl
    · rw [if_pos (by omega), if_neg hs, Option.bind_some, if_pos (by simp only [List.length_cons, List.length_nil]; omega), e hs]
  · rw [if_pos (by omega), if_neg hm, Option.bind_some, two_f, Option.bind_some, if_pos (by simp only [twoS, List.length_cons, List.length_nil]; omega), Option.bind_some]
    by_cases hs : s = 0
    · rw [if_neg (by omega), if_pos hs, List.append_nil]
    · rw [if_pos (by omega), if_neg hs, Option.bind_some, if_pos (by simp only [twoS, List.length_append, List.length_cons, List.length_nil]; omega), e hs]
theorem two_low (n : Int) (h0 : 0 ≤ n) (h1 : n ≤ 65535) : towroperef01_Two.f (wrap64 n) = some (twoS n) := by rw [w64 (by omega) (by omega), two_f]
set_option maxHeartbeats 1000000 in
theorem refsegbytes_f (k : Nat) (s d a0 a1 a2 a3 fl a5 m sc : Int) (l : List Int) (s0 : 0 ≤ s ∧ s ≤ 4294967295) (d0 : 0 ≤ d ∧ d ≤ 4294967295) (h0 : 0 ≤ a0 ∧ a0 ≤ 65535) (h1 : 0 ≤ a1 ∧ a1 ≤ 65535) (h2 : 0 ≤ a2 ∧ a2 ≤ 4294967295) (h3 : 0 ≤ a3 ∧ a3 ≤ 4294967295) (hf : 0 ≤ fl ∧ fl ≤ 63) (h5 : 0 ≤ a5 ∧ a5 ≤ 65535)
    (m0 : 0 ≤ m ∧ m ≤ 65535) (c0 : 0 ≤ sc ∧ sc ≤ 15) (hlb : bytesB l = true) (hl : l.length ≤ 70000) (hk : l.length + 60 ≤ k) : towroperef09_Bytes.f k s d a0 a1 a2 a3 fl a5 m sc l = some (segB s d a0 a1 a2 a3 fl a5 (optB m sc) l) := by
  obtain ⟨ho, ho4⟩ := optB_len m sc
  have hob := optB_bytes m sc c0
  unfold towroperef09_Bytes.f
  rw [refopt_f m sc m0 c0, Option.bind_some]
  generalize optB m sc = o at *
  have h2l : ∀ x, (twoS x).length = 2 := fun _ => rfl
  have h4l : ∀ x, (fourS x).length = 4 := fun _ => rfl
  rw [two_low a0 h0.1 h0.2, Option.bind_some, two_low a1 h1.1 h1.2, Option.bind_some, h2l, h2l, if_pos (by omega), Option.bind_some, four_f a2 h2.1 h2.2, Option.bind_some, four_f a3 h3.1 h3.2, Option.bind_some, h4l, h4l, if_pos (by omega), Option.bind_some]
  simp only [List.length_append, List.length_cons, List.length_nil, h2l, h4l, Option.bind_some]
  rw [if_pos (by omega), if_pos (by omega), two_low a5 h5.1 h5.2, Option.bind_some, h2l, if_pos (by omega), if_pos (by omega), if_pos (by omega), if_pos (by omega), if_pos (by omega), if_pos (by omega)]
  have ew : wrap64 (80 + wrap64 (4 * (o.length : Int))) % 256 = 80 + 4 * (o.length : Int) := by rw [w64 (n := 4 * (o.length : Int)) (by omega) (by omega), w64 (by omega) (by omega)]; omega
  rw [ew]
  have epre : twoS a0 ++ twoS a1 ++ (fourS a2 ++ fourS a3) ++ [80 + 4 * (o.length : Int), fl] ++ twoS a5 = preSeg a0 a1 a2 a3 fl a5 o := by
    unfold preSeg
    simp only [List.append_assoc, List.nil_append]
  rw [epre]
  have hpl := preSeg_len a0 a1 a2 a3 fl a5 o
  have hp := preSeg_bytes a0 a1 a2 a3 fl a5 o (by omega) hf
  have hz2 : bytesB ([0, 0] ++ ([0, 0] ++ (o ++ l))) = true := bytesB_append (by rfl) (bytesB_append (by rfl) (bytesB_append hob hlb))
  have eraw : [] ++ preSeg a0 a1 a2 a3 fl a5 o ++ [0, 0] ++ ([0, 0] ++ o ++ l) = preSeg a0 a1 a2 a3 fl a5 o ++ ([0, 0] ++ ([0, 0] ++ (o ++ l))) := by
    simp only [List.append_assoc, List.nil_append]
  have hrl : (preSeg a0 a1 a2 a3 fl a5 o ++ ([0, 0] ++ ([0, 0] ++ (o ++ l)))).length = o.length + l.length + 20 := by
    rw [List.length_append, hpl]
    simp only [List.length_append, List.length_cons, List.length_nil]
    omega
  rw [eraw]
  have hR := refof_f k s d 6 (preSeg a0 a1 a2 a3 fl a5 o ++ ([0, 0] ++ ([0, 0] ++ (o ++ l)))) s0.1 s0.2 d0.1 d0.2 (by decide) (by decide) (by rw [hrl]; clear eraw epre ew; omega) (bytesB_append hp hz2) (by rw [hrl]; clear eraw epre ew; omega)
  rw [hR, Option.bind_some, hrl]
  clear hR eraw epre
  have ec : 65535 - sumW (headS s d 6 (((o.length + l.length + 20 : Nat)) : Int) ++ (preSeg a0 a1 a2 a3 fl a5 o ++ ([0, 0] ++ ([0, 0] ++ (o ++ l))))) = segC s d a0 a1 a2 a3 fl a5 o l := by
    unfold segC
    rw [List.append_assoc]
  rw [ec, two_f, Option.bind_some, h2l]
  clear ec hz2 hp hpl hrl
  rw [if_pos (by omega), if_pos (by omega)]
  unfold segB
  simp only [List.append_assoc, List.nil_append]
  rw [if_pos (by omega)]
theorem bit2 : ∀ n : Nat, n < 256 → (Go.bits .and .u8 (n : Int) 2 = if n / 2 % 2 = 0 then 0 else 2) ∧ (Go.bits .and .u8 (n : Int) 1 = if n % 2 = 0 then 0 else 1) := by decide +kernel
theorem seglen_f (k : Nat) (a0 a1 a2 a3 fl a5 m sc : Int) (l : List Int) (hf : 0 ≤ fl ∧ fl ≤ 255) (hl : l.length ≤ 140737488351232) : seg_Len.f (k + 3) a0 a1 a2 a3 fl a5 m sc l = some ((l.length : Int) + fl % 2 + fl / 2 % 2) := by
  obtain ⟨n, rfl⟩ : ∃ n : Nat, fl = n := ⟨fl.toNat, by omega⟩
  obtain ⟨e2, e1⟩ := bit2 n (by omega)
  unfold seg_Len.f
  rw [Option.bind_some]
  have r0 : rd [2, 1] 0 = 2 := rfl
  have r1 : rd [2, 1] 1 = 1 := rfl
  have w1 : wrap64 (0 + 1) = 1 := by decide +kernel
  have w2 : wrap64 (1 + 1) = 2 := by decide +kernel
  have hlen : (([2, 1] : List Int).length : Int) = 2 := rfl
  simp only [seg_Len.l0]
  rw [hlen, if_pos (by omega), if_pos (by omega), if_pos (by omega), r0, w1]
  by_cases c2 : n / 2 % 2 = 0
  · rw [if_pos c2] at e2
    rw [if_pos e2, if_pos (by omega), if_pos (by omega), if_pos (by omega), r1, w2]
    by_cases c1 : n % 2 = 0
    · rw [if_pos c1] at e1
      rw [if_pos e1, if_neg (by omega)]; congr 1; omega
    · rw [if_neg c1] at e1
      rw [if_neg (by rw [e1]; decide), if_neg (by omega), w64 (by omega) (by omega)]; congr 1; omega
  · rw [if_neg c2] at e2
    rw [if_neg (by rw [e2]; decide), if_pos (by omega), if_pos (by omega), if_pos (by omega), r1, w2]
    by_cases c1 : n % 2 = 0
    · rw [if_pos c1] at e1
      rw [if_pos e1, if_neg (by omega), w64 (by omega) (by omega)]; congr 1; omega
    · rw [if_neg c1] at e1
      rw [if_neg (by rw [e1]; decide), if_neg (by omega), w64 (n := (l.length : Int) + 1) (by omega) (by omega), w64 (by omega) (by omega)]; congr 1; omega
theorem refseglen_f (a0 a1 a2 a3 fl a5 m sc : Int) (l : List Int) (hf : 0 ≤ fl ∧ fl ≤ 255) (hl : l.length ≤ 140737488351232) : towroperef09_Len.f a0 a1 a2 a3 fl a5 m sc l = some ((l.length : Int) + fl % 2 + fl / 2 % 2) := by
  unfold towroperef09_Len.f
  rw [w64 (n := fl) (by omega) (by omega), tm _ _ hf.1, td _ _ hf.1, w64 (n := fl / 2) (by omega) (by omega), tm _ _ (by omega), w64 (n := (l.length : Int) + fl % 2) (by omega) (by omega), w64 (by omega) (by omega)]
theorem smsame_refl (a0 a1 a2 a3 a4 a5 a6 a7 : Int) (a : List Int) : seg_Same.f a0 a1 a2 a3 a4 a5 a6 a7 a a0 a1 a2 a3 a4 a5 a6 a7 a = some true := by simp [seg_Same.f, bytes_Equal.f]
theorem segput_no (k : Nat) (s d a0 a1 a2 a3 fl a5 m sc : Int) (l : List Int) (hc : ckSeg fl m sc l ≠ 0) : seg_Put.f (k + 1) s d a0 a1 a2 a3 fl a5 m sc l = some ([], ckSeg fl m sc l) := by
  unfold seg_Put.f
  rw [segcheck_f k, Option.bind_some, if_neg hc]
theorem SegPuts : SegPutsSt := by
  intro s d a0 a1 a2 a3 fl a5 m sc l hs hd h0 h1 h2 h3 hf h5 hm hsc _ hw
  have hlb := bytesB_wf hw
  have s0 := bounds_u32 hs; have d0 := bounds_u32 hd; have q0 := bounds_u16 h0; have q1 := bounds_u16 h1; have q2 := bounds_u32 h2; have q3 := bounds_u32 h3; have qf := bounds_u8 hf; have q5 := bounds_u16 h5
  refine ⟨l.length + 80, ?_⟩
  unfold towropelaw09_SegPuts.f
  by_cases h7 : (l.length : Int) > 70000
  · rw [if_pos h7, show l.length + 80 = l.length + 70 + 10 by omega, seg_live, Option.bind_some]
  rw [if_neg h7]
  by_cases hc : ckSeg fl m sc l = 0
  · have hcc := hc
    unfold ckSeg at hcc
    split at hcc
    · simp at hcc
    rename_i hbad
    split at hcc
    · simp at hcc
    rename_i hlong
    have hob := optB_len m sc
    have hbl := segB_len s d a0 a1 a2 a3 fl a5 (optB m sc) l
    obtain ⟨hbb, -⟩ := segB_sum s d a0 a1 a2 a3 fl a5 (optB m sc) l hob.1 ⟨qf.1, by omega⟩ (optB_bytes m sc (by omega)) hlb
    rw [show l.length + 80 = l.length + 75 + 5 by omega, segput_f (l.length + 75) s d a0 a1 a2 a3 fl a5 m sc l s0 d0 q0 q1 q2 q3 qf.1 q5 hlb hc, Option.bind_some, show l.length + 75 + 5 = l.length + 79 + 1 by omega, refsegcheck_f, Option.bind_some, seg_code, Option.bind_some, hc, if_pos rfl, segcheck_f, Option.bind_some, hc, seg_code, Option.bind_some, if_pos rfl,
      show l.length + 79 + 1 = l.length + 77 + 3 by omega, seglen_f (l.length + 77) _ _ _ _ _ _ _ _ _ qf (by omega), Option.bind_some, refseglen_f _ _ _ _ _ _ _ _ _ qf (by omega), Option.bind_some]
    simp only [bne_self_eq_false]
    rw [show l.length + 77 + 3 = l.length + 79 + 1 by omega]
    simp only [towropelaw09_SegPuts.j0]
    rw [if_neg (by simp), if_true, show l.length + 79 = l.length + 74 + 5 by omega, segGot (l.length + 74) s d a0 a1 a2 a3 fl a5 m sc l s0 d0 q0 q1 q2 q3 ⟨qf.1, by omega⟩ q5 (by omega) (by omega) hlb (by omega), Option.bind_some,
      refsegbytes_f _ s d a0 a1 a2 a3 fl a5 m sc l s0 d0 q0 q1 q2 q3 ⟨qf.1, by omega⟩ q5 (by omega) (by omega) hlb (by omega) (by omega), Option.bind_some, if_pos rfl]
    dsimp only
    rw [seg_code, Option.bind_some, if_pos rfl, segsame_refl, Option.bind_some, if_pos rfl, smsame_refl, Option.bind_some, if_pos rfl, show l.length + 74 + 5 = l.length + 69 + 10 by omega, seg_live, Option.bind_some]
  · rw [show l.length + 80 = l.length + 79 + 1 by omega, segput_no _ s d a0 a1 a2 a3 fl a5 m sc l hc, Option.bind_some, refsegcheck_f, Option.bind_some, seg_code, Option.bind_some, if_pos rfl, segcheck_f, Option.bind_some, seg_code, Option.bind_some, if_pos rfl,
      show l.length + 79 + 1 = l.length + 77 + 3 by omega, seglen_f (l.length + 77) _ _ _ _ _ _ _ _ _ qf (by omega), Option.bind_some, refseglen_f _ _ _ _ _ _ _ _ _ qf (by omega), Option.bind_some]
    simp only [bne_self_eq_false]
    rw [show l.length + 77 + 3 = l.length + 79 + 1 by omega]
    simp only [towropelaw09_SegPuts.j0]
    rw [if_neg (by simp), if_neg hc, if_pos (by simp), show l.length + 79 = l.length + 69 + 10 by omega, seg_live, Option.bind_some]
end Go.Proofs.Ytilkbmjkjlbfmaa.Pure
