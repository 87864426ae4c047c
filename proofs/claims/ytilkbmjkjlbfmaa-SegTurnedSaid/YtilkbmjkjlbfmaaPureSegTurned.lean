/- A segment of which one byte is another one is refused. No conditions. -/
import Derived.Test.YtilkbmjkjlbfmaaPSegTx1
import Derived.Test.YtilkbmjkjlbfmaaPSegTx2
import Derived.Test.YtilkbmjkjlbfmaaPSegTx3
import Derived.Test.YtilkbmjkjlbfmaaPSegTx4
import Derived.Test.YtilkbmjkjlbfmaaPSegTx5
import Derived.Test.YtilkbmjkjlbfmaaPSegTx6
import Derived.Test.YtilkbmjkjlbfmaaPSegTx7
import Derived.Test.YtilkbmjkjlbfmaaAr
import Derived.Test.YtilkbmjkjlbfmaaHSum
import Derived.Test.YtilkbmjkjlbfmaaQSegTurned
namespace Go.Proofs.Ytilkbmjkjlbfmaa.PSegT
open Go.RowKit Go.Proofs.YtilkbmjkjlbfmaaW.PrintWords Go.Proofs.YtilkbmjkjlbfmaaW.PrintLast Go.Proofs.YtilkbmjkjlbfmaaW.PrintMore Go.Proofs.Ytilkbmjkjlbfmaa.Ar Go.Proofs.Ytilkbmjkjlbfmaa.HSum
set_option linter.unusedVariables false
set_option linter.unusedSimpArgs false

theorem bytesB_of {l : List Int} (h : ∀ x ∈ l, 0 ≤ x ∧ x ≤ 255) : bytesB l = true := by
  unfold bytesB
  rw [List.all_eq_true]
  intro x hx
  have := h x hx
  simpa using this
theorem bytesB_wf {l : List Int} (h : ∀ x ∈ l, (Lit.int .u8 x).wf = true) : bytesB l = true := bytesB_of fun x hx => bounds_u8 (h x hx)
theorem bytesB_mem {l : List Int} (h : bytesB l = true) {x : Int} (hx : x ∈ l) : 0 ≤ x ∧ x ≤ 255 := by
  have := List.all_eq_true.1 h x hx
  simpa using this

theorem or_i64 (x b : Int) (x0 : 0 ≤ x) (x1 : x ≤ 255) (b0 : 0 ≤ b) (b1 : b ≤ 255) : Go.bits .or .i64 (x * 256) b = x * 256 + b :=
  bits_join .i64 63 (by decide) (fun n h0 h1 => by rw [IntKind.wrap_i64]; omega) 8 (x * 256) b (by omega) (by omega) (by omega) b0 (by omega) (by omega)

/-- The pair at byte j, as a number. -/
def pair (l : List Int) (j : Nat) : Int := rd l j * 256 + (if j + 1 < l.length then rd l ((j + 1 : Nat) : Int) else 0)
theorem pr_pair {l : List Int} (h : bytesB l = true) (j : Nat) : pr l j = pair l j := by
  unfold pr pair
  have h0 := bytes_rd h (j : Int)
  have h1 := bytes_rd h ((j + 1 : Nat) : Int)
  split
  · exact or_i64 _ _ h0.1 h0.2 h1.1 h1.2
  · omega
theorem pair_bd {l : List Int} (h : bytesB l = true) (j : Nat) : 0 ≤ pair l j ∧ pair l j ≤ 65535 := by
  have h0 := bytes_rd h (j : Int)
  have h1 := bytes_rd h ((j + 1 : Nat) : Int)
  unfold pair
  split <;> omega

def norm (t : Int) : Int := if t = 0 then 0 else (t - 1) % 65535 + 1
theorem norm_add (t p : Int) (ht : 0 ≤ t) (p0 : 0 ≤ p) (p1 : p ≤ 65535) : addF (norm t) p = norm (t + p) := by
  unfold norm addF
  repeat' split
  all_goals omega
theorem norm_bd (t : Int) (h : 0 ≤ t) : 0 ≤ norm t ∧ norm t ≤ 65535 := by
  unfold norm
  split <;> omega
theorem norm_mod (t : Int) : (t - norm t) % 65535 = 0 := by
  unfold norm
  split <;> omega

theorem foldW_norm (ps : List Int) (h : ∀ p ∈ ps, 0 ≤ p ∧ p ≤ 65535) : ∀ t : Int, 0 ≤ t → foldW (norm t) ps = norm (t + ps.sum) := by
  induction ps with
  | nil => intro t _; simp [foldW]
  | cons p ps ih =>
    intro t ht
    have hp := h p List.mem_cons_self
    have hc : foldW (norm t) (p :: ps) = foldW (addF (norm t) p) ps := rfl
    rw [hc, norm_add t p ht hp.1 hp.2, ih (fun q hq => h q (List.mem_cons_of_mem _ hq)) (t + p) (by omega), List.sum_cons, Int.add_assoc]

theorem all_bd {l : List Int} (h : bytesB l = true) : ∀ p ∈ HSum.all l, 0 ≤ p ∧ p ≤ 65535 := by
  intro p hp
  unfold HSum.all pre at hp
  obtain ⟨k, _, rfl⟩ := List.mem_map.1 hp
  rw [pr_pair h]
  exact pair_bd h _
theorem sum_nonneg (ps : List Int) (h : ∀ p ∈ ps, 0 ≤ p ∧ p ≤ 65535) : 0 ≤ ps.sum := by
  induction ps with
  | nil => simp
  | cons p ps ih =>
    rw [List.sum_cons]
    have := h p List.mem_cons_self
    have := ih (fun q hq => h q (List.mem_cons_of_mem _ hq))
    omega
theorem sumW_norm {l : List Int} (h : bytesB l = true) : sumW l = norm (HSum.all l).sum := by
  unfold sumW
  have := foldW_norm (HSum.all l) (all_bd h) 0 (by omega)
  rw [show norm 0 = 0 from rfl, Int.zero_add] at this
  exact this
theorem all_nonneg {l : List Int} (h : bytesB l = true) : 0 ≤ (HSum.all l).sum := sum_nonneg _ (all_bd h)
end Go.Proofs.Ytilkbmjkjlbfmaa.PSegT
namespace Go.Proofs.Ytilkbmjkjlbfmaa.PSegT
open Go.RowKit Go.Proofs.YtilkbmjkjlbfmaaW.PrintWords Go.Proofs.YtilkbmjkjlbfmaaW.PrintLast Go.Proofs.YtilkbmjkjlbfmaaW.PrintMore Go.Proofs.Ytilkbmjkjlbfmaa.Ar Go.Proofs.Ytilkbmjkjlbfmaa.HSum
set_option linter.unusedVariables false
set_option linter.unusedSimpArgs false

def tt : List Int → Int
  | a :: b :: t => a * 256 + b + tt t
  | [a] => a * 256
  | [] => 0

theorem rd_two (a b : Int) (t : List Int) (j : Nat) : rd (a :: b :: t) ((j + 2 : Nat) : Int) = rd t j := by
  unfold rd
  simp only [Int.toNat_natCast]
  rfl
theorem pair_two (a b : Int) (t : List Int) (j : Nat) : pair (a :: b :: t) (j + 2) = pair t j := by
  unfold pair
  rw [rd_two, show j + 2 + 1 = (j + 1) + 2 from rfl, rd_two]
  simp only [List.length_cons]
  congr 1
  by_cases h : j + 1 < t.length
  · rw [if_pos h, if_pos (by omega)]
  · rw [if_neg h, if_neg (by omega)]
theorem bytesB_cons {a : Int} {t : List Int} (h : bytesB (a :: t) = true) : (0 ≤ a ∧ a ≤ 255) ∧ bytesB t = true :=
  ⟨bytesB_mem h List.mem_cons_self, bytesB_of fun _ hx => bytesB_mem h (List.mem_cons_of_mem _ hx)⟩
theorem bytesB_append {a b : List Int} (ha : bytesB a = true) (hb : bytesB b = true) : bytesB (a ++ b) = true :=
  bytesB_of fun x hx => (List.mem_append.1 hx).elim (fun h => bytesB_mem ha h) (fun h => bytesB_mem hb h)

theorem all_tt : ∀ l : List Int, bytesB l = true → (HSum.all l).sum = tt l
  | [], _ => rfl
  | [a], h => by
    unfold HSum.all pre
    simp only [List.length_cons, List.length_nil]
    rw [show (0 + 1 + 1) / 2 = 1 from rfl, List.range_one, List.map_cons, List.map_nil, List.sum_cons, List.sum_nil, pr_pair h]
    unfold pair tt rd
    simp
  | a :: b :: t, h => by
    have h2 := (bytesB_cons (bytesB_cons h).2).2
    have ih := all_tt t h2
    unfold HSum.all pre at ih ⊢
    simp only [List.length_cons]
    rw [show (t.length + 1 + 1 + 1) / 2 = (t.length + 1) / 2 + 1 by omega, List.range_succ_eq_map, List.map_cons, List.sum_cons, List.map_map]
    have e : (List.map ((fun k => pr (a :: b :: t) (2 * k)) ∘ Nat.succ) (List.range ((t.length + 1) / 2))) = List.map (fun k => pr t (2 * k)) (List.range ((t.length + 1) / 2)) := by
      refine List.map_congr_left fun k _ => ?_
      show pr (a :: b :: t) (2 * (k + 1)) = pr t (2 * k)
      rw [pr_pair h, pr_pair h2, show 2 * (k + 1) = 2 * k + 2 by omega, pair_two]
    rw [e, ih, pr_pair h]
    have e0 : pair (a :: b :: t) (2 * 0) = a * 256 + b := by
      unfold pair rd
      simp
    rw [e0]
    rfl

theorem sumW_tt {l : List Int} (h : bytesB l = true) : sumW l = norm (tt l) := by rw [sumW_norm h, all_tt l h]
theorem tt_nonneg {l : List Int} (h : bytesB l = true) : 0 ≤ tt l := by rw [← all_tt l h]; exact all_nonneg h

theorem tt_append : ∀ a b : List Int, a.length % 2 = 0 → tt (a ++ b) = tt a + tt b
  | [], b, _ => by simp [tt]
  | [_], _, h => by simp at h
  | x :: y :: t, b, h => by
    have := tt_append t b (by simp only [List.length_cons] at h; omega)
    show x * 256 + y + tt (t ++ b) = x * 256 + y + tt t + tt b
    rw [this]
    omega

theorem norm_full (t : Int) (h : 0 ≤ t) : norm (t + (65535 - norm t)) = 65535 := by
  unfold norm
  split <;> (split <;> omega)
def twoS (n : Int) : List Int := [n % 65536 / 256, n % 256]
theorem twoS_bytes (n : Int) : bytesB (twoS n) = true := bytesB_of fun x hx => by
  unfold twoS at hx
  simp only [List.mem_cons, List.not_mem_nil, or_false] at hx
  omega
theorem tt_two (n : Int) (h0 : 0 ≤ n) (h1 : n ≤ 65535) : tt (twoS n) = n := by
  unfold twoS
  simp only [tt]
  omega
end Go.Proofs.Ytilkbmjkjlbfmaa.PSegT
namespace Go.Proofs.Ytilkbmjkjlbfmaa.PSegT
open Go.RowKit Go.Proofs.YtilkbmjkjlbfmaaW.PrintWords Go.Proofs.YtilkbmjkjlbfmaaW.PrintLast Go.Proofs.YtilkbmjkjlbfmaaW.PrintMore Go.Proofs.Ytilkbmjkjlbfmaa.Ar Go.Proofs.Ytilkbmjkjlbfmaa.HSum
set_option linter.unusedVariables false
set_option linter.unusedSimpArgs false

theorem put_step (k : Nat) (x m n i sh i1 : Int) (l : List Int) (hi : i < n) (hsh : wrap64 (8 * wrap64 (wrap64 (m - 1) - i)) = sh) (hs : 0 ≤ sh) (hl : l.length < 140737488355328) (h1 : wrap64 (i + 1) = i1) :
    octet_put.l0 (k + 1) x m l n i = octet_put.l0 k x m (l ++ [(shr .u64 x sh) % 256]) n i1 := by
  simp only [octet_put.l0]
  rw [if_pos hi, hsh, if_pos hs, if_pos hl, h1]
theorem put_end (k : Nat) (x m n i : Int) (l : List Int) (hi : ¬ i < n) : octet_put.l0 (k + 1) x m l n i = some l := by
  simp only [octet_put.l0]
  rw [if_neg hi]
theorem shr0 (x : Int) : shr .u64 x 0 = x := by
  unfold shr
  rw [show (2 : Int) ^ min (Int.toNat 0) IntKind.u64.bits = 1 by decide +kernel]
  omega
theorem shr8 (x : Int) : shr .u64 x 8 = x / 256 := by
  unfold shr
  rw [show (2 : Int) ^ min (Int.toNat 8) IntKind.u64.bits = 256 by decide +kernel]
theorem shr16 (x : Int) : shr .u64 x 16 = x / 65536 := by
  unfold shr
  rw [show (2 : Int) ^ min (Int.toNat 16) IntKind.u64.bits = 65536 by decide +kernel]
theorem shr24 (x : Int) : shr .u64 x 24 = x / 16777216 := by
  unfold shr
  rw [show (2 : Int) ^ min (Int.toNat 24) IntKind.u64.bits = 16777216 by decide +kernel]

def fourS (n : Int) : List Int := [n / 16777216 % 256, n / 65536 % 256, n / 256 % 256, n % 256]
theorem clone_f (l : List Int) (hl : l.length < 140737488355328) : slices_Clone_byte_byte.f l = some l := by
  unfold slices_Clone_byte_byte.f
  rw [if_pos hl]

theorem put2_f (k : Nat) (l : List Int) (x : Int) (hl : l.length + 2 ≤ 140737488355328) : octet_put.f (k + 3) l x 2 = some (l ++ [x / 256 % 256, x % 256]) := by
  unfold octet_put.f
  rw [clone_f l (by omega)]
  simp only [Option.bind_some]
  rw [put_step (k + 2) x 2 2 0 8 1 l (by decide) (by decide +kernel) (by decide) (by omega) (by decide +kernel),
    put_step (k + 1) x 2 2 1 0 2 _ (by decide) (by decide +kernel) (by decide) (by simp; omega) (by decide +kernel), put_end k x 2 2 2 _ (by decide), shr8, shr0]
  simp
theorem put4_f (k : Nat) (l : List Int) (x : Int) (hl : l.length + 4 ≤ 140737488355328) : octet_put.f (k + 5) l x 4 = some (l ++ fourS x) := by
  unfold octet_put.f fourS
  rw [clone_f l (by omega)]
  simp only [Option.bind_some]
  rw [put_step (k + 4) x 4 4 0 24 1 l (by decide) (by decide +kernel) (by decide) (by omega) (by decide +kernel),
    put_step (k + 3) x 4 4 1 16 2 _ (by decide) (by decide +kernel) (by decide) (by simp; omega) (by decide +kernel),
    put_step (k + 2) x 4 4 2 8 3 _ (by decide) (by decide +kernel) (by decide) (by simp; omega) (by decide +kernel),
    put_step (k + 1) x 4 4 3 0 4 _ (by decide) (by decide +kernel) (by decide) (by simp; omega) (by decide +kernel), put_end k x 4 4 4 _ (by decide), shr24, shr16, shr8, shr0]
  simp

theorem put16_f (k : Nat) (l : List Int) (n : Int) (hl : l.length + 2 ≤ 140737488355328) : octet_Put16.f (k + 3) l n = some (l ++ twoS n) := by
  unfold octet_Put16.f
  rw [u16w, u64w, show n % 65536 % 18446744073709551616 = n % 65536 by omega, put2_f k l _ hl]
  simp only [Option.bind_some]
  unfold twoS
  rw [show n % 65536 / 256 % 256 = n % 65536 / 256 by omega, show n % 65536 % 256 = n % 256 by omega]
theorem put32_f (k : Nat) (l : List Int) (n : Int) (n0 : 0 ≤ n) (n1 : n ≤ 4294967295) (hl : l.length + 4 ≤ 140737488355328) : octet_Put32.f (k + 5) l n = some (l ++ fourS n) := by
  unfold octet_Put32.f
  rw [u64w, show n % 18446744073709551616 = n by omega, put4_f k l n hl]
  rfl
theorem fourS_bytes (n : Int) : bytesB (fourS n) = true := bytesB_of fun x hx => by
  unfold fourS at hx
  simp only [List.mem_cons, List.not_mem_nil, or_false] at hx
  omega
end Go.Proofs.Ytilkbmjkjlbfmaa.PSegT
namespace Go.Proofs.Ytilkbmjkjlbfmaa.PSegT
open Go.RowKit Go.Proofs.Ytilkbmjkjlbfmaa.PSegT Go.Proofs.YtilkbmjkjlbfmaaW.PrintWords Go.Proofs.YtilkbmjkjlbfmaaW.PrintLast Go.Proofs.YtilkbmjkjlbfmaaW.PrintMore Go.Proofs.Ytilkbmjkjlbfmaa.Ar Go.Proofs.Ytilkbmjkjlbfmaa.HSum Go.Proofs.Ytilkbmjkjlbfmaa.HExt
set_option linter.unusedVariables false
set_option linter.unusedSimpArgs false

/-- Options as bytes. -/
def optB (m s : Int) : List Int := (if m = 0 then [] else [2, 4] ++ twoS m) ++ (if s = 0 then [] else [1, 3, 3, s - 1])
theorem options_f (k : Nat) (a0 a1 a2 a3 a4 a5 m s : Int) (d : List Int) (m0 : 0 ≤ m ∧ m ≤ 65535) (s0 : 0 ≤ s ∧ s ≤ 15) : seg_Options.f (k + 3) a0 a1 a2 a3 a4 a5 m s d = some (optB m s) := by
  have e : s ≠ 0 → wrap64 (s - 1) % 256 = s - 1 := fun h => by rw [w64 (by omega) (by omega)]; omega
  unfold seg_Options.f optB
  by_cases hm : m = 0
  · rw [if_pos hm, if_pos hm]
    by_cases hs : s = 0
    · rw [if_pos hs, if_pos hs]; rfl
    · rw [if_neg hs, if_neg hs, Option.bind_some, if_pos (by simp only [List.length_cons, List.length_nil]; omega), e hs]
  · rw [if_neg hm, if_neg hm, put16_f k _ m (by simp only [List.length_cons, List.length_nil]; omega), Option.bind_some]
    by_cases hs : s = 0
    · rw [if_pos hs, if_pos hs, List.append_nil]
    · rw [if_neg hs, if_neg hs, Option.bind_some, if_pos (by simp only [twoS, List.length_append, List.length_cons, List.length_nil]; omega), e hs]
theorem optB_bytes (m s : Int) (s0 : 0 ≤ s ∧ s ≤ 15) : bytesB (optB m s) = true := by
  unfold optB
  refine bytesB_append ?_ ?_
  · split
    · rfl
    · exact bytesB_append (by rfl) (twoS_bytes m)
  · split
    · rfl
    · exact bytesB_of fun x hx => by simp only [List.mem_cons, List.not_mem_nil, or_false] at hx; omega
theorem optB_len (m s : Int) : (optB m s).length ≤ 8 ∧ (optB m s).length % 4 = 0 := by
  unfold optB twoS
  split <;> split <;> simp
end Go.Proofs.Ytilkbmjkjlbfmaa.PSegT
namespace Go.Proofs.Ytilkbmjkjlbfmaa.PSegT
open Go.RowKit Go.Proofs.YtilkbmjkjlbfmaaW.PrintWords Go.Proofs.YtilkbmjkjlbfmaaW.PrintLast Go.Proofs.YtilkbmjkjlbfmaaW.PrintMore Go.Proofs.Ytilkbmjkjlbfmaa.Ar Go.Proofs.Ytilkbmjkjlbfmaa.HSum
set_option linter.unusedVariables false
set_option linter.unusedSimpArgs false

def headS (s d p n : Int) : List Int := fourS s ++ fourS d ++ [0, p] ++ twoS n
theorem headS_len (s d p n : Int) : (headS s d p n).length = 12 := rfl
theorem headS_bytes (s d p n : Int) (p0 : 0 ≤ p) (p1 : p ≤ 255) : bytesB (headS s d p n) = true :=
  bytesB_append (bytesB_append (bytesB_append (fourS_bytes s) (fourS_bytes d)) (bytesB_of fun x hx => by simp only [List.mem_cons, List.not_mem_nil, or_false] at hx; omega)) (twoS_bytes n)
theorem head_f (k : Nat) (s d p n : Int) (s0 : 0 ≤ s) (s1 : s ≤ 4294967295) (d0 : 0 ≤ d) (d1 : d ≤ 4294967295) : sum_Head.f (k + 5) s d p n = some (headS s d p n) := by
  unfold sum_Head.f
  rw [put32_f k [] s s0 s1 (by simp)]
  simp only [Option.bind_some]
  rw [put32_f k _ d d0 d1 (by simp [fourS])]
  simp only [Option.bind_some]
  have hl : ([] ++ fourS s ++ fourS d).length = 8 := rfl
  rw [hl, if_pos (by simp), put16_f (k + 2) _ n (by simp [fourS])]
  rfl
theorem of_tt (hd l : List Int) (hh : bytesB hd = true) (hb : bytesB l = true) (he : hd.length % 2 = 0) : ofW hd l = 65535 - sumW (hd ++ l) := by
  unfold ofW
  rw [sumW_tt hh, foldW_norm _ (all_bd hb) _ (tt_nonneg hh), all_tt l hb, sumW_tt (bytesB_append hh hb), tt_append hd l he]
theorem of_f (s d p : Int) (l : List Int) (s0 : 0 ≤ s) (s1 : s ≤ 4294967295) (d0 : 0 ≤ d) (d1 : d ≤ 4294967295) (p0 : 0 ≤ p) (p1 : p ≤ 255) (hl : l.length ≤ 140737488355315) (hb : bytesB l = true) :
    sum_Of.f s d p l = some (65535 - sumW (headS s d p l.length ++ l)) := by
  have hh := headS_bytes s d p l.length p0 p1
  unfold sum_Of.f
  rw [head_f 3 s d p _ s0 s1 d0 d1]
  simp only [Option.bind_some]
  rw [if_pos ⟨hh, hb, by rw [headS_len]; omega, by omega⟩, of_tt _ _ hh hb (by rw [headS_len])]
end Go.Proofs.Ytilkbmjkjlbfmaa.PSegT
namespace Go.Proofs.Ytilkbmjkjlbfmaa.PSegT
open Go.RowKit Go.Proofs.Ytilkbmjkjlbfmaa.PSegT Go.Proofs.YtilkbmjkjlbfmaaW.PrintWords Go.Proofs.YtilkbmjkjlbfmaaW.PrintLast Go.Proofs.YtilkbmjkjlbfmaaW.PrintMore Go.Proofs.Ytilkbmjkjlbfmaa.Ar Go.Proofs.Ytilkbmjkjlbfmaa.HSum Go.Proofs.Ytilkbmjkjlbfmaa.HExt
set_option linter.unusedVariables false
set_option linter.unusedSimpArgs false

theorem ck_sum (A Z : List Int) (ha : bytesB A = true) (hz : bytesB Z = true) (hA : A.length % 2 = 0) (n : Int) (hn : n = 65535 - sumW (A ++ ([0, 0] ++ Z))) :
    ∃ u, 0 ≤ u ∧ tt (A ++ (twoS n ++ Z)) = u + (65535 - norm u) ∧ sumW (A ++ (twoS n ++ Z)) = 65535 := by
  have h00 : bytesB [0, 0] = true := by rfl
  have hb : bytesB (A ++ ([0, 0] ++ Z)) = true := bytesB_append ha (bytesB_append h00 hz)
  have hm : bytesB (A ++ (twoS n ++ Z)) = true := bytesB_append ha (bytesB_append (twoS_bytes _) hz)
  have hs := sumW_tt hb
  have h0 := tt_nonneg hb
  have hv := norm_bd _ h0
  have e1 : tt (A ++ ([0, 0] ++ Z)) = tt A + tt Z := by
    rw [tt_append _ _ hA, tt_append _ _ (by simp)]
    simp [tt]
  have e2 : tt (A ++ (twoS n ++ Z)) = tt A + (n + tt Z) := by
    rw [tt_append _ _ hA, tt_append _ _ (by simp [twoS]), tt_two _ (by omega) (by omega)]
  have e4 : tt (A ++ (twoS n ++ Z)) = tt (A ++ ([0, 0] ++ Z)) + (65535 - norm (tt (A ++ ([0, 0] ++ Z)))) := by rw [e2]; rw [hs] at hn; omega
  refine ⟨_, h0, e4, ?_⟩
  rw [sumW_tt hm, e4, norm_full _ h0]
theorem tt_one : ∀ (j : Nat) (l : List Int) (x : Int), j < l.length → ∃ m : Int, (m = 1 ∨ m = 256) ∧ tt (l.set j x) = tt l + m * (x - rd l j)
  | 0, [y], x, _ => ⟨256, .inr rfl, by simp [tt, rd]; omega⟩
  | 0, y :: z :: t, x, _ => ⟨256, .inr rfl, by simp [tt, rd]; omega⟩
  | 1, y :: z :: t, x, _ => ⟨1, .inl rfl, by simp [tt, rd]; omega⟩
  | j + 2, y :: z :: t, x, h => by
    obtain ⟨m, hm, e⟩ := tt_one j t x (by simp only [List.length_cons] at h; omega)
    refine ⟨m, hm, ?_⟩
    rw [rd_two]
    simp only [List.set_cons_succ, tt]
    rw [e]
    omega
  | j + 1, [_], _, h => by simp at h
theorem norm_other (t d m : Int) (h0 : 0 ≤ t + m * d) (hm : m = 1 ∨ m = 256) (hd : d ≠ 0) (d0 : -255 ≤ d) (d1 : d ≤ 255) (ht : ∃ u, 0 ≤ u ∧ t = u + (65535 - norm u)) : norm (t + m * d) ≠ 65535 := by
  obtain ⟨u, u0, rfl⟩ := ht
  have hu := norm_mod u
  have hv := norm_mod (u + (65535 - norm u) + m * d)
  intro he
  rw [he] at hv
  rcases hm with rfl | rfl <;> omega
theorem xor_u8 (x y : Int) (x0 : 0 ≤ x ∧ x ≤ 255) (y0 : 0 ≤ y ∧ y ≤ 255) (hy : y ≠ 0) : (0 ≤ Go.bits .xor .u8 x y ∧ Go.bits .xor .u8 x y ≤ 255) ∧ Go.bits .xor .u8 x y ≠ x := by
  have hlt := (BitVec.ofInt 8 x ^^^ BitVec.ofInt 8 y).isLt
  have e : Go.bits .xor .u8 x y = (((BitVec.ofInt 8 x ^^^ BitVec.ofInt 8 y).toNat : Nat) : Int) := by
    show IntKind.u8.wrap (((BitVec.ofInt 8 x ^^^ BitVec.ofInt 8 y).toNat : Nat) : Int) = _
    generalize (BitVec.ofInt 8 x ^^^ BitVec.ofInt 8 y).toNat = z at *
    simp [IntKind.wrap, IntKind.bits, IntKind.signed]
    omega
  rw [e]
  refine ⟨by omega, fun h => hy ?_⟩
  have h2 : BitVec.ofInt 8 x ^^^ BitVec.ofInt 8 y = BitVec.ofInt 8 x := by
    apply BitVec.eq_of_toNat_eq
    have e2 : (BitVec.ofInt 8 x).toNat = (x % 256).toNat := by rw [BitVec.toNat_ofInt]; rfl
    rw [e2]
    omega
  have h3 : BitVec.ofInt 8 y = 0#8 := by
    have := congrArg (fun z => BitVec.ofInt 8 x ^^^ z) h2
    simpa [← BitVec.xor_assoc] using this
  have h4 := congrArg BitVec.toNat h3
  rw [BitVec.toNat_ofInt] at h4
  have h5 : (y % ((2 ^ 8 : Nat) : Int)).toNat = 0 := h4
  have h6 : (y % 256).toNat = 0 := h5
  omega
theorem turned_bytes {l : List Int} (h : bytesB l = true) (j : Nat) {x : Int} (x0 : 0 ≤ x ∧ x ≤ 255) : bytesB (l.set j x) = true := bytesB_of fun y hy => by
  rcases List.mem_or_eq_of_mem_set hy with hy | rfl
  · exact bytesB_mem h hy
  · exact x0
theorem turned_sum {l : List Int} (h : bytesB l = true) (ht : ∃ u, 0 ≤ u ∧ tt l = u + (65535 - norm u)) (j : Nat) (hj : j < l.length) (x : Int) (x0 : 0 ≤ x ∧ x ≤ 255) (hx : x ≠ rd l j) (hr : 0 ≤ rd l j ∧ rd l j ≤ 255) : sumW (l.set j x) ≠ 65535 := by
  have hn := turned_bytes h j x0
  obtain ⟨m, hmm, e⟩ := tt_one j l x hj
  have h0 := tt_nonneg hn
  rw [sumW_tt hn, e]
  rw [e] at h0
  exact norm_other (tt l) (x - rd l j) m h0 hmm (by omega) (by omega) (by omega) ht
end Go.Proofs.Ytilkbmjkjlbfmaa.PSegT
namespace Go.Proofs.Ytilkbmjkjlbfmaa.PSegT
open Go.RowKit Go.Proofs.Ytilkbmjkjlbfmaa.PSegT Go.Proofs.YtilkbmjkjlbfmaaW.PrintWords Go.Proofs.YtilkbmjkjlbfmaaW.PrintLast Go.Proofs.YtilkbmjkjlbfmaaW.PrintMore Go.Proofs.Ytilkbmjkjlbfmaa.Ar Go.Proofs.Ytilkbmjkjlbfmaa.HSum Go.Proofs.Ytilkbmjkjlbfmaa.HExt
set_option linter.unusedVariables false
set_option linter.unusedSimpArgs false

def ckSeg (fl m sc : Int) (l : List Int) : Int := if fl > 63 ∨ m < 0 ∨ m > 65535 ∨ sc < 0 ∨ sc > 15 then 1 else if (l.length : Int) > 65455 then 9 else 0
theorem segcheck_f (k : Nat) (a0 a1 a2 a3 fl a5 m sc : Int) (l : List Int) : seg_Check.f (k + 1) a0 a1 a2 a3 fl a5 m sc l = some (ckSeg fl m sc l) := by
  have hj : ∀ b : Bool, (b = true ↔ fl > 63 ∨ m < 0 ∨ m > 65535 ∨ sc < 0 ∨ sc > 15) → seg_Check.j0 (k + 1) b a0 a1 a2 a3 fl a5 m sc l = some (ckSeg fl m sc l) := by
    intro b hb
    simp only [seg_Check.j0]
    unfold ckSeg
    by_cases h : b = true
    · rw [if_pos h, if_pos (hb.1 h)]
    · rw [if_neg h, if_neg (fun x => h (hb.2 x))]
      split <;> rfl
  unfold seg_Check.f
  by_cases h1 : fl > 63
  · rw [if_pos h1]; exact hj _ ⟨fun _ => .inl h1, fun _ => decide_eq_true h1⟩
  rw [if_neg h1]
  by_cases h2 : m < 0
  · rw [if_pos h2]; exact hj _ ⟨fun _ => .inr (.inl h2), fun _ => rfl⟩
  rw [if_neg h2]
  by_cases h3 : m > 65535
  · rw [if_pos h3]; exact hj _ ⟨fun _ => .inr (.inr (.inl h3)), fun _ => decide_eq_true h3⟩
  rw [if_neg h3]
  by_cases h4 : sc < 0
  · rw [if_pos h4]; exact hj _ ⟨fun _ => .inr (.inr (.inr (.inl h4))), fun _ => rfl⟩
  rw [if_neg h4]; exact hj _ ⟨fun x => by have := of_decide_eq_true x; omega, fun x => decide_eq_true (by omega)⟩
theorem refsegcheck_f (k : Nat) (a0 a1 a2 a3 fl a5 m sc : Int) (l : List Int) : towroperef09_Check.f (k + 1) a0 a1 a2 a3 fl a5 m sc l = some (ckSeg fl m sc l) := by
  have hj : ∀ b : Bool, (b = true ↔ fl > 63 ∨ m < 0 ∨ m > 65535 ∨ sc < 0 ∨ sc > 15) → towroperef09_Check.j0 (k + 1) b a0 a1 a2 a3 fl a5 m sc l = some (ckSeg fl m sc l) := by
    intro b hb
    simp only [towroperef09_Check.j0]
    unfold ckSeg
    by_cases h : b = true
    · rw [if_pos h, if_pos (hb.1 h)]
    · rw [if_neg h, if_neg (fun x => h (hb.2 x))]
      split <;> rfl
  unfold towroperef09_Check.f
  by_cases h1 : fl > 63
  · rw [if_pos h1]; exact hj _ ⟨fun _ => .inl h1, fun _ => rfl⟩
  rw [if_neg h1]
  by_cases h2 : m < 0
  · rw [if_pos h2]; exact hj _ ⟨fun _ => .inr (.inl h2), fun _ => rfl⟩
  rw [if_neg h2]
  by_cases h3 : m > 65535
  · rw [if_pos h3]; exact hj _ ⟨fun _ => .inr (.inr (.inl h3)), fun _ => rfl⟩
  rw [if_neg h3]
  by_cases h4 : sc < 0
  · rw [if_pos h4]; exact hj _ ⟨fun _ => .inr (.inr (.inr (.inl h4))), fun _ => rfl⟩
  rw [if_neg h4]; exact hj _ ⟨fun x => by have := of_decide_eq_true x; omega, fun x => decide_eq_true (by omega)⟩

/-- A segment's first sixteen bytes, what is behind its check sum, the segment. -/
def preSeg (a0 a1 a2 a3 fl a5 : Int) (o : List Int) : List Int := twoS a0 ++ (twoS a1 ++ (fourS a2 ++ (fourS a3 ++ ([80 + 4 * (o.length : Int), fl] ++ twoS a5))))
def segC (s d a0 a1 a2 a3 fl a5 : Int) (o l : List Int) : Int := 65535 - sumW (headS s d 6 (((o.length + l.length + 20 : Nat)) : Int) ++ preSeg a0 a1 a2 a3 fl a5 o ++ ([0, 0] ++ ([0, 0] ++ (o ++ l))))
def segB (s d a0 a1 a2 a3 fl a5 : Int) (o l : List Int) : List Int := preSeg a0 a1 a2 a3 fl a5 o ++ (twoS (segC s d a0 a1 a2 a3 fl a5 o l) ++ ([0, 0] ++ (o ++ l)))
theorem preSeg_len (a0 a1 a2 a3 fl a5 : Int) (o : List Int) : (preSeg a0 a1 a2 a3 fl a5 o).length = 16 := rfl
theorem preSeg_bytes (a0 a1 a2 a3 fl a5 : Int) (o : List Int) (ho : o.length ≤ 8) (hf : 0 ≤ fl ∧ fl ≤ 63) : bytesB (preSeg a0 a1 a2 a3 fl a5 o) = true :=
  bytesB_append (twoS_bytes _) (bytesB_append (twoS_bytes _) (bytesB_append (fourS_bytes _) (bytesB_append (fourS_bytes _) (bytesB_append (bytesB_of fun x hx => by simp only [List.mem_cons, List.not_mem_nil, or_false] at hx; omega) (twoS_bytes _)))))
theorem segB_len (s d a0 a1 a2 a3 fl a5 : Int) (o l : List Int) : (segB s d a0 a1 a2 a3 fl a5 o l).length = o.length + l.length + 20 := by
  unfold segB
  rw [List.length_append, preSeg_len]
  simp only [twoS, List.length_append, List.length_cons, List.length_nil]
  omega
theorem segB_sum (s d a0 a1 a2 a3 fl a5 : Int) (o l : List Int) (ho : o.length ≤ 8) (hf : 0 ≤ fl ∧ fl ≤ 63) (hob : bytesB o = true) (hlb : bytesB l = true) :
    bytesB (segB s d a0 a1 a2 a3 fl a5 o l) = true ∧ ∃ u, 0 ≤ u ∧ tt (headS s d 6 (((o.length + l.length + 20 : Nat)) : Int) ++ segB s d a0 a1 a2 a3 fl a5 o l) = u + (65535 - norm u) ∧ sumW (headS s d 6 (((o.length + l.length + 20 : Nat)) : Int) ++ segB s d a0 a1 a2 a3 fl a5 o l) = 65535 := by
  have hp := preSeg_bytes a0 a1 a2 a3 fl a5 o ho hf
  have hz : bytesB ([0, 0] ++ (o ++ l)) = true := bytesB_append (by rfl) (bytesB_append hob hlb)
  have hA : bytesB (headS s d 6 (((o.length + l.length + 20 : Nat)) : Int) ++ preSeg a0 a1 a2 a3 fl a5 o) = true := bytesB_append (headS_bytes _ _ _ _ (by omega) (by omega)) hp
  refine ⟨bytesB_append hp (bytesB_append (twoS_bytes _) hz), ?_⟩
  have := ck_sum _ _ hA hz (by rw [List.length_append, headS_len, preSeg_len]) _ rfl
  unfold segB
  rw [← List.append_assoc]
  exact this
theorem segput_f (k : Nat) (s d a0 a1 a2 a3 fl a5 m sc : Int) (l : List Int) (s0 : 0 ≤ s ∧ s ≤ 4294967295) (d0 : 0 ≤ d ∧ d ≤ 4294967295) (h0 : 0 ≤ a0 ∧ a0 ≤ 65535) (h1 : 0 ≤ a1 ∧ a1 ≤ 65535) (h2 : 0 ≤ a2 ∧ a2 ≤ 4294967295) (h3 : 0 ≤ a3 ∧ a3 ≤ 4294967295) (hf : 0 ≤ fl) (h5 : 0 ≤ a5 ∧ a5 ≤ 65535)
    (hlb : bytesB l = true) (hc : ckSeg fl m sc l = 0) : seg_Put.f (k + 5) s d a0 a1 a2 a3 fl a5 m sc l = some (segB s d a0 a1 a2 a3 fl a5 (optB m sc) l, 0) := by
  have hcc := hc
  unfold ckSeg at hcc
  split at hcc
  · simp at hcc
  rename_i hbad
  split at hcc
  · simp at hcc
  rename_i hlong
  have hol := optB_len m sc
  have hob := optB_bytes m sc (by omega)
  unfold seg_Put.f
  rw [show k + 5 = k + 4 + 1 by omega, segcheck_f (k + 4), hc, Option.bind_some, if_pos rfl, show k + 4 + 1 = k + 2 + 3 by omega, options_f (k + 2) a0 a1 a2 a3 fl a5 m sc l (by omega) (by omega), Option.bind_some]
  generalize optB m sc = o at *
  rw [w64 (n := a0) (by omega) (by omega), w64 (n := a1) (by omega) (by omega), w64 (n := a5) (by omega) (by omega)]
  rw [put16_f (k + 2) [] a0 (by simp only [List.length_nil]; omega), Option.bind_some, put16_f (k + 2) _ a1 (by simp only [twoS, List.length_append, List.length_cons, List.length_nil]; omega), Option.bind_some]
  rw [show k + 2 + 3 = k + 5 by omega, put32_f k _ a2 h2.1 h2.2 (by simp only [twoS, List.length_append, List.length_cons, List.length_nil]; omega), Option.bind_some, put32_f k _ a3 h3.1 h3.2 (by simp only [twoS, fourS, List.length_append, List.length_cons, List.length_nil]; omega), Option.bind_some, Option.bind_some]
  rw [w64 (n := (o.length : Int) / 4) (by omega) (by omega), w64 (n := 5 + (o.length : Int) / 4) (by omega) (by omega), w64 (n := 16 * (5 + (o.length : Int) / 4)) (by omega) (by omega), show 16 * (5 + (o.length : Int) / 4) % 256 = 80 + 4 * (o.length : Int) by omega]
  rw [if_pos (by simp only [twoS, fourS, List.length_append, List.length_cons, List.length_nil]; omega), show k + 5 = k + 2 + 3 by omega, put16_f (k + 2) _ a5 (by simp only [twoS, fourS, List.length_append, List.length_cons, List.length_nil]; omega), Option.bind_some, Option.bind_some]
  have epre : [] ++ twoS a0 ++ twoS a1 ++ fourS a2 ++ fourS a3 ++ [80 + 4 * (o.length : Int), fl] ++ twoS a5 = preSeg a0 a1 a2 a3 fl a5 o := by
    unfold preSeg
    simp only [List.append_assoc, List.nil_append]
  rw [epre]
  have hpl := preSeg_len a0 a1 a2 a3 fl a5 o
  have hp := preSeg_bytes a0 a1 a2 a3 fl a5 o (by omega) (by omega)
  rw [if_pos (by rw [hpl]; simp only [List.length_cons, List.length_nil]; omega), Option.bind_some, if_pos (by rw [List.length_append, hpl]; simp only [List.length_cons, List.length_nil]; omega), Option.bind_some, if_pos (by rw [List.length_append, List.length_append, hpl]; simp only [List.length_cons, List.length_nil]; omega), Option.bind_some]
  have eraw : preSeg a0 a1 a2 a3 fl a5 o ++ [0, 0, 0, 0] ++ o ++ l = preSeg a0 a1 a2 a3 fl a5 o ++ ([0, 0] ++ ([0, 0] ++ (o ++ l))) := by
    simp only [List.append_assoc, List.cons_append, List.nil_append]
  rw [eraw]
  have hz : bytesB ([0, 0] ++ (o ++ l)) = true := bytesB_append (by rfl) (bytesB_append hob hlb)
  have hz2 : bytesB ([0, 0] ++ ([0, 0] ++ (o ++ l))) = true := bytesB_append (by rfl) hz
  have hrl : (preSeg a0 a1 a2 a3 fl a5 o ++ ([0, 0] ++ ([0, 0] ++ (o ++ l)))).length = o.length + l.length + 20 := by
    rw [List.length_append, hpl]
    simp only [List.length_append, List.length_cons, List.length_nil]
    omega
  rw [of_f s d 6 _ s0.1 s0.2 d0.1 d0.2 (by omega) (by omega) (by rw [hrl]; omega) (bytesB_append hp hz2), Option.bind_some, hrl]
  have ec : 65535 - sumW (headS s d 6 (((o.length + l.length + 20 : Nat)) : Int) ++ (preSeg a0 a1 a2 a3 fl a5 o ++ ([0, 0] ++ ([0, 0] ++ (o ++ l))))) = segC s d a0 a1 a2 a3 fl a5 o l := by
    unfold segC
    rw [List.append_assoc]
  rw [ec, put16_f (k + 2) [] _ (by simp only [List.length_nil]; omega), Option.bind_some, List.nil_append]
  have e2 : (twoS (segC s d a0 a1 a2 a3 fl a5 o l)).length = 2 := rfl
  rw [if_pos ⟨by rw [e2]; omega, by rw [e2]; omega⟩]
  have t1 : (preSeg a0 a1 a2 a3 fl a5 o ++ ([0, 0] ++ ([0, 0] ++ (o ++ l)))).take 16 = preSeg a0 a1 a2 a3 fl a5 o := List.take_left' hpl
  have t2 : (preSeg a0 a1 a2 a3 fl a5 o ++ ([0, 0] ++ ([0, 0] ++ (o ++ l)))).drop (16 + 2) = [0, 0] ++ (o ++ l) := by
    rw [← List.append_assoc]
    exact List.drop_left' (by rw [List.length_append, hpl]; rfl)
  unfold over
  rw [e2, t1, t2]
  unfold segB
  with_reducible rfl
end Go.Proofs.Ytilkbmjkjlbfmaa.PSegT
namespace Go.Proofs.Ytilkbmjkjlbfmaa.PSegT
open Go.RowKit Go.Proofs.Ytilkbmjkjlbfmaa.PSegT Go.Proofs.YtilkbmjkjlbfmaaW.PrintWords Go.Proofs.YtilkbmjkjlbfmaaW.PrintLast Go.Proofs.YtilkbmjkjlbfmaaW.PrintMore Go.Proofs.Ytilkbmjkjlbfmaa.Ar
set_option linter.unusedVariables false
set_option linter.unusedSimpArgs false

theorem seg_code (x : Int) : towropelaw09_code.f x = some x := rfl
theorem seg_live : ∀ k, towropelaw09_live.f (k + 10) = some true := by
  intro k
  induction k with
  | zero => decide +kernel
  | succ k ih => exact towropelaw09_live.mono (k + 10) true ih
abbrev SegR := Int × Int × Int × Int × Int × Int × Int × Int × List Int × Int
def noSeg (e : Int) : SegR := (0, 0, 0, 0, 0, 0, 0, 0, [], e)
def topT (l : List Int) : Int := 4 * (rd l 12 / 16)
theorem segsame_refl (a0 a1 a2 a3 a4 a5 a6 a7 : Int) (a : List Int) : towroperef09_Same.f a0 a1 a2 a3 a4 a5 a6 a7 a a0 a1 a2 a3 a4 a5 a6 a7 a = some true := by
  simp [towroperef09_Same.f]
end Go.Proofs.Ytilkbmjkjlbfmaa.PSegT
namespace Go.Proofs.Ytilkbmjkjlbfmaa.PSegT
open Go.RowKit Go.Proofs.YtilkbmjkjlbfmaaW.PrintWords Go.Proofs.YtilkbmjkjlbfmaaW.PrintLast Go.Proofs.YtilkbmjkjlbfmaaW.PrintMore Go.Proofs.Ytilkbmjkjlbfmaa.Ar Go.Proofs.Ytilkbmjkjlbfmaa.HSum
set_option linter.unusedVariables false
set_option linter.unusedSimpArgs false

def Bytes (l : List Int) : Prop := ∀ x ∈ l, 0 ≤ x ∧ x ≤ 255
theorem Bytes.at_ {l : List Int} (h : Bytes l) (i : Int) : 0 ≤ rd l i ∧ rd l i ≤ 255 := by
  unfold rd
  rw [List.getD_eq_getElem?_getD]
  rcases Nat.lt_or_ge i.toNat l.length with hi | hi
  · rw [List.getElem?_eq_getElem hi]
    exact h _ (List.getElem_mem hi)
  · rw [List.getElem?_eq_none hi]
    simp
end Go.Proofs.Ytilkbmjkjlbfmaa.PSegT
namespace Go.Proofs.Ytilkbmjkjlbfmaa.Pure
open Go.RowKit Go.Proofs.Ytilkbmjkjlbfmaa.PSegT Go.Proofs.YtilkbmjkjlbfmaaW.PrintWords Go.Proofs.YtilkbmjkjlbfmaaW.PrintLast Go.Proofs.YtilkbmjkjlbfmaaW.PrintMore Go.Proofs.Ytilkbmjkjlbfmaa.Ar Go.Proofs.Ytilkbmjkjlbfmaa.HSum Go.Proofs.Ytilkbmjkjlbfmaa.HExt
set_option linter.unusedVariables false
set_option linter.unusedSimpArgs false

theorem segturned_get (k : Nat) (s d : Int) (l : List Int) (s0 : 0 ≤ s ∧ s ≤ 4294967295) (d0 : 0 ≤ d ∧ d ≤ 4294967295) (h : bytesB l = true) (hl : l.length ≤ 70000) (h20 : 20 ≤ l.length) (hs : sumW (headS s d 6 l.length ++ l) ≠ 65535) : ∃ e, e ≠ 0 ∧ seg_Get.f k s d l = some (noSeg e) := by
  have hB : Bytes l := fun x hx => bytesB_mem h hx
  have b12 := hB.at_ 12
  have ht : 4 * (rd l 12 / 16) = topT l := rfl
  unfold seg_Get.f
  rw [if_neg (by omega), if_pos (by omega), w64 (n := rd l 12 / 16) (by omega) (by omega), w64 (n := 4 * (rd l 12 / 16)) (by omega) (by omega), ht]
  by_cases h2 : topT l < 20
  · rw [if_pos h2]; exact ⟨3, by decide, rfl⟩
  rw [if_neg h2]
  by_cases h3 : (l.length : Int) < topT l
  · rw [if_pos h3]; exact ⟨2, by decide, rfl⟩
  rw [if_neg h3, of_f s d 6 l s0.1 s0.2 d0.1 d0.2 (by omega) (by omega) (by omega) h, Option.bind_some, if_neg (by omega)]; exact ⟨4, by decide, rfl⟩
theorem segturned_j1 (k : Nat) (s d a0 a1 a2 a3 fl a5 : Int) (o l : List Int) (x y : Int) (s0 : 0 ≤ s ∧ s ≤ 4294967295) (d0 : 0 ≤ d ∧ d ≤ 4294967295) (hf : 0 ≤ fl ∧ fl ≤ 63) (hob : bytesB o = true) (hlb : bytesB l = true) (ho : o.length ≤ 8) (hl : l.length ≤ 65455)
    (x0 : 0 ≤ x ∧ x ≤ 65535) (y0 : 0 ≤ y ∧ y ≤ 255) (hy : y ≠ 0) : towropelaw09_SegTurned.j1 (k + 11) s d x y (segB s d a0 a1 a2 a3 fl a5 o l) false = some true := by
  have hbl := segB_len s d a0 a1 a2 a3 fl a5 o l
  obtain ⟨hbb, u, u0, hu, hs⟩ := segB_sum s d a0 a1 a2 a3 fl a5 o l ho hf hob hlb
  simp only [towropelaw09_SegTurned.j1]
  generalize segB s d a0 a1 a2 a3 fl a5 o l = b at *
  rw [if_neg (by simp), if_neg (by omega), w64 (n := x) (by omega) (by omega), tm _ _ x0.1]
  have m0 : 0 ≤ x % (b.length : Int) := Int.emod_nonneg _ (by omega)
  have m1 : x % (b.length : Int) < b.length := Int.emod_lt_of_pos _ (by omega)
  obtain ⟨j, hj⟩ : ∃ j : Nat, x % (b.length : Int) = j := ⟨(x % (b.length : Int)).toNat, by omega⟩
  rw [hj, if_pos (by omega), if_pos (by omega), Int.toNat_natCast]
  have hjl : j < b.length := by omega
  have hr : 0 ≤ rd b (j : Int) ∧ rd b (j : Int) ≤ 255 := Bytes.at_ (fun x hx => bytesB_mem hbb hx) _
  obtain ⟨z0, zne⟩ := xor_u8 _ y hr y0 hy
  generalize Go.bits .xor .u8 (rd b (j : Int)) y = z at *
  have hhl := headS_len s d 6 (((o.length + l.length + 20 : Nat)) : Int)
  have hall : bytesB (headS s d 6 (((o.length + l.length + 20 : Nat)) : Int) ++ b) = true := bytesB_append (headS_bytes _ _ _ _ (by omega) (by omega)) hbb
  have er : rd (headS s d 6 (((o.length + l.length + 20 : Nat)) : Int) ++ b) ((12 + j : Nat) : Int) = rd b (j : Int) := by
    unfold rd
    simp only [Int.toNat_natCast, List.getD_eq_getElem?_getD]
    rw [List.getElem?_append_right (by omega), hhl, show 12 + j - 12 = j by omega]
  have hsum := turned_sum hall ⟨u, u0, hu⟩ (12 + j) (by rw [List.length_append, hhl]; omega) z z0 (by rw [er]; exact zne) (by rw [er]; exact hr)
  have es : (headS s d 6 (((o.length + l.length + 20 : Nat)) : Int) ++ b).set (12 + j) z = headS s d 6 (((b.set j z).length : Nat) : Int) ++ b.set j z := by
    rw [List.set_append_right _ _ (by omega), hhl, show 12 + j - 12 = j by omega, List.length_set, hbl]
  rw [es] at hsum
  obtain ⟨e, he, hg⟩ := segturned_get (k + 10) s d (b.set j z) s0 d0 (turned_bytes hbb j z0) (by rw [List.length_set]; omega) (by rw [List.length_set]; omega) hsum
  rw [hg]
  unfold noSeg
  rw [Option.bind_some, seg_code, Option.bind_some, if_neg he, segsame_refl, Option.bind_some, if_pos rfl, seg_live, Option.bind_some]
theorem segturned_j0 (k : Nat) (s d a0 a1 a2 a3 fl a5 m sc : Int) (l : List Int) (x y : Int) (b : Bool) (s0 : 0 ≤ s ∧ s ≤ 4294967295) (d0 : 0 ≤ d ∧ d ≤ 4294967295) (h0 : 0 ≤ a0 ∧ a0 ≤ 65535) (h1 : 0 ≤ a1 ∧ a1 ≤ 65535) (h2 : 0 ≤ a2 ∧ a2 ≤ 4294967295) (h3 : 0 ≤ a3 ∧ a3 ≤ 4294967295) (hf : 0 ≤ fl) (h5 : 0 ≤ a5 ∧ a5 ≤ 65535)
    (hlb : bytesB l = true) (x0 : 0 ≤ x ∧ x ≤ 65535) (y0 : 0 ≤ y ∧ y ≤ 255) (hb : b = false → y ≠ 0 ∧ ckSeg fl m sc l = 0) : towropelaw09_SegTurned.j0 (k + 12) s d x y b a0 a1 a2 a3 fl a5 m sc l = some true := by
  simp only [towropelaw09_SegTurned.j0]
  cases b with
  | true => rw [if_pos rfl, show k + 11 = k + 1 + 10 by omega, seg_live, Option.bind_some]
  | false =>
    obtain ⟨hy, hc⟩ := hb rfl
    have hcc := hc
    unfold ckSeg at hcc
    split at hcc
    · simp at hcc
    rename_i hbad
    split at hcc
    · simp at hcc
    rename_i hlong
    have hol := optB_len m sc
    rw [if_neg (by simp), show k + 11 = k + 6 + 5 by omega, segput_f (k + 6) s d a0 a1 a2 a3 fl a5 m sc l s0 d0 h0 h1 h2 h3 hf h5 hlb hc, Option.bind_some, seg_code, Option.bind_some, if_pos rfl,
      show decide ((((segB s d a0 a1 a2 a3 fl a5 (optB m sc) l).length : Nat) : Int) < 20) = false from decide_eq_false (by rw [segB_len]; omega), show k + 6 + 5 = k + 11 by omega]
    exact segturned_j1 k s d a0 a1 a2 a3 fl a5 _ l x y s0 d0 (by omega) (optB_bytes m sc (by omega)) hlb (by omega) (by omega) x0 y0 hy
theorem SegTurned : SegTurnedSt := by
  intro s d a0 a1 a2 a3 fl a5 m sc l x y hs hd h0 h1 h2 h3 hf h5 _ _ _ hw hx hy
  have hlb := bytesB_wf hw
  have g := fun (b : Bool) (hb : b = false → y ≠ 0 ∧ ckSeg fl m sc l = 0) => segturned_j0 0 s d a0 a1 a2 a3 fl a5 m sc l x y b (bounds_u32 hs) (bounds_u32 hd) (bounds_u16 h0) (bounds_u16 h1) (bounds_u32 h2) (bounds_u32 h3) (bounds_u8 hf).1 (bounds_u16 h5) hlb (bounds_u16 hx) (bounds_u8 hy) hb
  refine ⟨12, ?_⟩
  unfold towropelaw09_SegTurned.f
  by_cases h7 : (l.length : Int) > 2000
  · rw [if_pos h7]
    exact g true (by simp)
  · rw [if_neg h7, refsegcheck_f 11, Option.bind_some]
    by_cases hc : ckSeg fl m sc l = 0
    · rw [if_pos hc]
      exact g _ (fun hz => ⟨by simpa using hz, hc⟩)
    · rw [if_neg hc]
      exact g true (by simp)
end Go.Proofs.Ytilkbmjkjlbfmaa.Pure
