/- A datagram of which two bytes that stand together are others is refused, unless they were nought and are all ones or the other way round. No conditions. -/
import Derived.Test.YtfmfpofbefgbgaaPGramTx1
import Derived.Test.YtfmfpofbefgbgaaPGramTx2
import Derived.Test.YtfmfpofbefgbgaaPGramTx3
import Derived.Test.YtfmfpofbefgbgaaPGramTx4
import Derived.Test.YtfmfpofbefgbgaaAr
import Derived.Test.YtfmfpofbefgbgaaHSum
import Derived.Test.YtfmfpofbefgbgaaHBare
import Derived.Test.YtfmfpofbefgbgaaQGramTurned
namespace Go.Proofs.Ytfmfpofbefgbgaa.PGramT
open Go.RowKit Go.Proofs.YtfmfpofbefgbgaaW.PrintWords Go.Proofs.YtfmfpofbefgbgaaW.PrintLast Go.Proofs.YtfmfpofbefgbgaaW.PrintMore Go.Proofs.Ytfmfpofbefgbgaa.Ar Go.Proofs.Ytfmfpofbefgbgaa.HSum
set_option linter.unusedVariables false
set_option linter.unusedSimpArgs false

theorem bytesB_of {l : List Int} (h : ∀ x ∈ l, 0 ≤ x ∧ x ≤ 255) : bytesB l = true := by
  unfold bytesB
  rw [List.all_eq_true]
  intro x hx
  have := h x hx
  simpa using this
theorem bytesB_wf {l : List Int} (h : ∀ x ∈ l, (Lit.int .u8 x).wf = true) : bytesB l = true := bytesB_of fun x hx => bounds_u8 (h x hx)
theorem bytesB_mem {l : List Int} (h : bytesB l = true) {x : Int} (hx : x ∈ l) : 0 ≤ x ∧ x ≤ 255 := by
  have := List.all_eq_true.1 h x hx
  simpa using this

theorem or_i64 (x b : Int) (x0 : 0 ≤ x) (x1 : x ≤ 255) (b0 : 0 ≤ b) (b1 : b ≤ 255) : Go.bits .or .i64 (x * 256) b = x * 256 + b :=
  bits_join .i64 63 (by decide) (fun n h0 h1 => by rw [IntKind.wrap_i64]; omega) 8 (x * 256) b (by omega) (by omega) (by omega) b0 (by omega) (by omega)

/-- The pair at byte j, as a number. -/
def pair (l : List Int) (j : Nat) : Int := rd l j * 256 + (if j + 1 < l.length then rd l ((j + 1 : Nat) : Int) else 0)
theorem pr_pair {l : List Int} (h : bytesB l = true) (j : Nat) : pr l j = pair l j := by
  unfold pr pair
  have h0 := bytes_rd h (j : Int)
  have h1 := bytes_rd h ((j + 1 : Nat) : Int)
  split
  · exact or_i64 _ _ h0.1 h0.2 h1.1 h1.2
  · omega
theorem pair_bd {l : List Int} (h : bytesB l = true) (j : Nat) : 0 ≤ pair l j ∧ pair l j ≤ 65535 := by
  have h0 := bytes_rd h (j : Int)
  have h1 := bytes_rd h ((j + 1 : Nat) : Int)
  unfold pair
  split <;> omega

def norm (t : Int) : Int := if t = 0 then 0 else (t - 1) % 65535 + 1
theorem norm_add (t p : Int) (ht : 0 ≤ t) (p0 : 0 ≤ p) (p1 : p ≤ 65535) : addF (norm t) p = norm (t + p) := by
  unfold norm addF
  repeat' split
  all_goals omega
theorem norm_bd (t : Int) (h : 0 ≤ t) : 0 ≤ norm t ∧ norm t ≤ 65535 := by
  unfold norm
  split <;> omega
theorem foldW_norm (ps : List Int) (h : ∀ p ∈ ps, 0 ≤ p ∧ p ≤ 65535) : ∀ t : Int, 0 ≤ t → foldW (norm t) ps = norm (t + ps.sum) := by
  induction ps with
  | nil => intro t _; simp [foldW]
  | cons p ps ih =>
    intro t ht
    have hp := h p List.mem_cons_self
    have hc : foldW (norm t) (p :: ps) = foldW (addF (norm t) p) ps := rfl
    rw [hc, norm_add t p ht hp.1 hp.2, ih (fun q hq => h q (List.mem_cons_of_mem _ hq)) (t + p) (by omega), List.sum_cons, Int.add_assoc]

theorem all_bd {l : List Int} (h : bytesB l = true) : ∀ p ∈ HSum.all l, 0 ≤ p ∧ p ≤ 65535 := by
  intro p hp
  unfold HSum.all pre at hp
  obtain ⟨k, _, rfl⟩ := List.mem_map.1 hp
  rw [pr_pair h]
  exact pair_bd h _
theorem sum_nonneg (ps : List Int) (h : ∀ p ∈ ps, 0 ≤ p ∧ p ≤ 65535) : 0 ≤ ps.sum := by
  induction ps with
  | nil => simp
  | cons p ps ih =>
    rw [List.sum_cons]
    have := h p List.mem_cons_self
    have := ih (fun q hq => h q (List.mem_cons_of_mem _ hq))
    omega
theorem sumW_norm {l : List Int} (h : bytesB l = true) : sumW l = norm (HSum.all l).sum := by
  unfold sumW
  have := foldW_norm (HSum.all l) (all_bd h) 0 (by omega)
  rw [show norm 0 = 0 from rfl, Int.zero_add] at this
  exact this
theorem all_nonneg {l : List Int} (h : bytesB l = true) : 0 ≤ (HSum.all l).sum := sum_nonneg _ (all_bd h)
theorem sumW_top {l : List Int} (h : bytesB l = true) : 0 ≤ sumW l ∧ sumW l ≤ 65535 := by
  rw [sumW_norm h]
  exact norm_bd _ (all_nonneg h)
end Go.Proofs.Ytfmfpofbefgbgaa.PGramT
namespace Go.Proofs.Ytfmfpofbefgbgaa.PGramT
open Go.RowKit Go.Proofs.YtfmfpofbefgbgaaW.PrintWords Go.Proofs.YtfmfpofbefgbgaaW.PrintLast Go.Proofs.YtfmfpofbefgbgaaW.PrintMore Go.Proofs.Ytfmfpofbefgbgaa.Ar Go.Proofs.Ytfmfpofbefgbgaa.HSum
set_option linter.unusedVariables false
set_option linter.unusedSimpArgs false

def tt : List Int → Int
  | a :: b :: t => a * 256 + b + tt t
  | [a] => a * 256
  | [] => 0

theorem rd_two (a b : Int) (t : List Int) (j : Nat) : rd (a :: b :: t) ((j + 2 : Nat) : Int) = rd t j := by
  unfold rd
  simp only [Int.toNat_natCast]
  rfl
theorem pair_two (a b : Int) (t : List Int) (j : Nat) : pair (a :: b :: t) (j + 2) = pair t j := by
  unfold pair
  rw [rd_two, show j + 2 + 1 = (j + 1) + 2 from rfl, rd_two]
  simp only [List.length_cons]
  congr 1
  by_cases h : j + 1 < t.length
  · rw [if_pos h, if_pos (by omega)]
  · rw [if_neg h, if_neg (by omega)]
theorem bytesB_cons {a : Int} {t : List Int} (h : bytesB (a :: t) = true) : (0 ≤ a ∧ a ≤ 255) ∧ bytesB t = true :=
  ⟨bytesB_mem h List.mem_cons_self, bytesB_of fun _ hx => bytesB_mem h (List.mem_cons_of_mem _ hx)⟩
theorem bytesB_append {a b : List Int} (ha : bytesB a = true) (hb : bytesB b = true) : bytesB (a ++ b) = true :=
  bytesB_of fun x hx => (List.mem_append.1 hx).elim (fun h => bytesB_mem ha h) (fun h => bytesB_mem hb h)

theorem all_tt : ∀ l : List Int, bytesB l = true → (HSum.all l).sum = tt l
  | [], _ => rfl
  | [a], h => by
    unfold HSum.all pre
    simp only [List.length_cons, List.length_nil]
    rw [show (0 + 1 + 1) / 2 = 1 from rfl, List.range_one, List.map_cons, List.map_nil, List.sum_cons, List.sum_nil, pr_pair h]
    unfold pair tt rd
    simp
  | a :: b :: t, h => by
    have h2 := (bytesB_cons (bytesB_cons h).2).2
    have ih := all_tt t h2
    unfold HSum.all pre at ih ⊢
    simp only [List.length_cons]
    rw [show (t.length + 1 + 1 + 1) / 2 = (t.length + 1) / 2 + 1 by omega, List.range_succ_eq_map, List.map_cons, List.sum_cons, List.map_map]
    have e : (List.map ((fun k => pr (a :: b :: t) (2 * k)) ∘ Nat.succ) (List.range ((t.length + 1) / 2))) = List.map (fun k => pr t (2 * k)) (List.range ((t.length + 1) / 2)) := by
      refine List.map_congr_left fun k _ => ?_
      show pr (a :: b :: t) (2 * (k + 1)) = pr t (2 * k)
      rw [pr_pair h, pr_pair h2, show 2 * (k + 1) = 2 * k + 2 by omega, pair_two]
    rw [e, ih, pr_pair h]
    have e0 : pair (a :: b :: t) (2 * 0) = a * 256 + b := by
      unfold pair rd
      simp
    rw [e0]
    rfl

theorem sumW_tt {l : List Int} (h : bytesB l = true) : sumW l = norm (tt l) := by rw [sumW_norm h, all_tt l h]
theorem tt_nonneg {l : List Int} (h : bytesB l = true) : 0 ≤ tt l := by rw [← all_tt l h]; exact all_nonneg h

theorem tt_append : ∀ a b : List Int, a.length % 2 = 0 → tt (a ++ b) = tt a + tt b
  | [], b, _ => by simp [tt]
  | [_], _, h => by simp at h
  | x :: y :: t, b, h => by
    have := tt_append t b (by simp only [List.length_cons] at h; omega)
    show x * 256 + y + tt (t ++ b) = x * 256 + y + tt t + tt b
    rw [this]
    omega

theorem tt_set : ∀ (m : Nat) (l : List Int) (a b : Int), 2 * m + 1 < l.length → tt ((l.set (2 * m) a).set (2 * m + 1) b) = tt l - (rd l ((2 * m : Nat) : Int) * 256 + rd l ((2 * m + 1 : Nat) : Int)) + (a * 256 + b)
  | 0, x :: y :: t, a, b, _ => by
    simp only [Nat.mul_zero, Nat.zero_add, List.set_cons_zero, List.set_cons_succ, tt]
    unfold rd
    simp
    omega
  | m + 1, x :: y :: t, a, b, h => by
    have ih := tt_set m t a b (by simp only [List.length_cons] at h; omega)
    rw [show 2 * (m + 1) = 2 * m + 2 by omega, show 2 * m + 2 + 1 = (2 * m + 1) + 2 by omega, rd_two, rd_two]
    simp only [List.set_cons_succ, tt]
    rw [ih]
    omega
  | _, [], _, _, h => by simp at h
  | _, [_], _, _, h => by simp at h

theorem norm_full (t : Int) (h : 0 ≤ t) : norm (t + (65535 - norm t)) = 65535 := by
  unfold norm
  split <;> (split <;> omega)
def twoS (n : Int) : List Int := [n % 65536 / 256, n % 256]
theorem twoS_bytes (n : Int) : bytesB (twoS n) = true := bytesB_of fun x hx => by
  unfold twoS at hx
  simp only [List.mem_cons, List.not_mem_nil, or_false] at hx
  omega
theorem tt_two (n : Int) (h0 : 0 ≤ n) (h1 : n ≤ 65535) : tt (twoS n) = n := by
  unfold twoS
  simp only [tt]
  omega
end Go.Proofs.Ytfmfpofbefgbgaa.PGramT
namespace Go.Proofs.Ytfmfpofbefgbgaa.PGramT
open Go.RowKit Go.Proofs.YtfmfpofbefgbgaaW.PrintWords Go.Proofs.YtfmfpofbefgbgaaW.PrintLast Go.Proofs.YtfmfpofbefgbgaaW.PrintMore Go.Proofs.Ytfmfpofbefgbgaa.Ar Go.Proofs.Ytfmfpofbefgbgaa.HSum
set_option linter.unusedVariables false
set_option linter.unusedSimpArgs false

theorem put_step (k : Nat) (x m n i sh i1 : Int) (l : List Int) (hi : i < n) (hsh : wrap64 (8 * wrap64 (wrap64 (m - 1) - i)) = sh) (hs : 0 ≤ sh) (hl : l.length < 140737488355328) (h1 : wrap64 (i + 1) = i1) :
    octet_put.l0 (k + 1) x m l n i = octet_put.l0 k x m (l ++ [(shr .u64 x sh) % 256]) n i1 := by
  simp only [octet_put.l0]
  rw [if_pos hi, hsh, if_pos hs, if_pos hl, h1]
theorem put_end (k : Nat) (x m n i : Int) (l : List Int) (hi : ¬ i < n) : octet_put.l0 (k + 1) x m l n i = some l := by
  simp only [octet_put.l0]
  rw [if_neg hi]
theorem shr0 (x : Int) : shr .u64 x 0 = x := by
  unfold shr
  rw [show (2 : Int) ^ min (Int.toNat 0) IntKind.u64.bits = 1 by decide +kernel]
  omega
theorem shr8 (x : Int) : shr .u64 x 8 = x / 256 := by
  unfold shr
  rw [show (2 : Int) ^ min (Int.toNat 8) IntKind.u64.bits = 256 by decide +kernel]
theorem shr16 (x : Int) : shr .u64 x 16 = x / 65536 := by
  unfold shr
  rw [show (2 : Int) ^ min (Int.toNat 16) IntKind.u64.bits = 65536 by decide +kernel]
theorem shr24 (x : Int) : shr .u64 x 24 = x / 16777216 := by
  unfold shr
  rw [show (2 : Int) ^ min (Int.toNat 24) IntKind.u64.bits = 16777216 by decide +kernel]

def fourS (n : Int) : List Int := [n / 16777216 % 256, n / 65536 % 256, n / 256 % 256, n % 256]
theorem clone_f (l : List Int) (hl : l.length < 140737488355328) : slices_Clone_byte_byte.f l = some l := by
  unfold slices_Clone_byte_byte.f
  rw [if_pos hl]

theorem put2_f (k : Nat) (l : List Int) (x : Int) (hl : l.length + 2 ≤ 140737488355328) : octet_put.f (k + 3) l x 2 = some (l ++ [x / 256 % 256, x % 256]) := by
  unfold octet_put.f
  rw [clone_f l (by omega)]
  simp only [Option.bind_some]
  rw [put_step (k + 2) x 2 2 0 8 1 l (by decide) (by decide +kernel) (by decide) (by omega) (by decide +kernel),
    put_step (k + 1) x 2 2 1 0 2 _ (by decide) (by decide +kernel) (by decide) (by simp; omega) (by decide +kernel), put_end k x 2 2 2 _ (by decide), shr8, shr0]
  simp
theorem put4_f (k : Nat) (l : List Int) (x : Int) (hl : l.length + 4 ≤ 140737488355328) : octet_put.f (k + 5) l x 4 = some (l ++ fourS x) := by
  unfold octet_put.f fourS
  rw [clone_f l (by omega)]
  simp only [Option.bind_some]
  rw [put_step (k + 4) x 4 4 0 24 1 l (by decide) (by decide +kernel) (by decide) (by omega) (by decide +kernel),
    put_step (k + 3) x 4 4 1 16 2 _ (by decide) (by decide +kernel) (by decide) (by simp; omega) (by decide +kernel),
    put_step (k + 2) x 4 4 2 8 3 _ (by decide) (by decide +kernel) (by decide) (by simp; omega) (by decide +kernel),
    put_step (k + 1) x 4 4 3 0 4 _ (by decide) (by decide +kernel) (by decide) (by simp; omega) (by decide +kernel), put_end k x 4 4 4 _ (by decide), shr24, shr16, shr8, shr0]
  simp

theorem put16_f (k : Nat) (l : List Int) (n : Int) (hl : l.length + 2 ≤ 140737488355328) : octet_Put16.f (k + 3) l n = some (l ++ twoS n) := by
  unfold octet_Put16.f
  rw [u16w, u64w, show n % 65536 % 18446744073709551616 = n % 65536 by omega, put2_f k l _ hl]
  simp only [Option.bind_some]
  unfold twoS
  rw [show n % 65536 / 256 % 256 = n % 65536 / 256 by omega, show n % 65536 % 256 = n % 256 by omega]
theorem put32_f (k : Nat) (l : List Int) (n : Int) (n0 : 0 ≤ n) (n1 : n ≤ 4294967295) (hl : l.length + 4 ≤ 140737488355328) : octet_Put32.f (k + 5) l n = some (l ++ fourS n) := by
  unfold octet_Put32.f
  rw [u64w, show n % 18446744073709551616 = n by omega, put4_f k l n hl]
  rfl
theorem fourS_bytes (n : Int) : bytesB (fourS n) = true := bytesB_of fun x hx => by
  unfold fourS at hx
  simp only [List.mem_cons, List.not_mem_nil, or_false] at hx
  omega
end Go.Proofs.Ytfmfpofbefgbgaa.PGramT
namespace Go.Proofs.Ytfmfpofbefgbgaa.PGramT
open Go.RowKit Go.Proofs.YtfmfpofbefgbgaaW.PrintWords Go.Proofs.YtfmfpofbefgbgaaW.PrintLast Go.Proofs.YtfmfpofbefgbgaaW.PrintMore Go.Proofs.Ytfmfpofbefgbgaa.Ar Go.Proofs.Ytfmfpofbefgbgaa.HSum
set_option linter.unusedVariables false
set_option linter.unusedSimpArgs false

def headS (s d p n : Int) : List Int := fourS s ++ fourS d ++ [0, p] ++ twoS n
theorem headS_len (s d p n : Int) : (headS s d p n).length = 12 := rfl
theorem headS_bytes (s d p n : Int) (p0 : 0 ≤ p) (p1 : p ≤ 255) : bytesB (headS s d p n) = true :=
  bytesB_append (bytesB_append (bytesB_append (fourS_bytes s) (fourS_bytes d)) (bytesB_of fun x hx => by simp only [List.mem_cons, List.not_mem_nil, or_false] at hx; omega)) (twoS_bytes n)
theorem head_f (k : Nat) (s d p n : Int) (s0 : 0 ≤ s) (s1 : s ≤ 4294967295) (d0 : 0 ≤ d) (d1 : d ≤ 4294967295) : sum_Head.f (k + 5) s d p n = some (headS s d p n) := by
  unfold sum_Head.f
  rw [put32_f k [] s s0 s1 (by simp)]
  simp only [Option.bind_some]
  rw [put32_f k _ d d0 d1 (by simp [fourS])]
  simp only [Option.bind_some]
  have hl : ([] ++ fourS s ++ fourS d).length = 8 := rfl
  rw [hl, if_pos (by simp), put16_f (k + 2) _ n (by simp [fourS])]
  rfl
theorem of_tt (hd l : List Int) (hh : bytesB hd = true) (hb : bytesB l = true) (he : hd.length % 2 = 0) : ofW hd l = 65535 - sumW (hd ++ l) := by
  unfold ofW
  rw [sumW_tt hh, foldW_norm _ (all_bd hb) _ (tt_nonneg hh), all_tt l hb, sumW_tt (bytesB_append hh hb), tt_append hd l he]
theorem of_f (s d p : Int) (l : List Int) (s0 : 0 ≤ s) (s1 : s ≤ 4294967295) (d0 : 0 ≤ d) (d1 : d ≤ 4294967295) (p0 : 0 ≤ p) (p1 : p ≤ 255) (hl : l.length ≤ 140737488355315) (hb : bytesB l = true) :
    sum_Of.f s d p l = some (65535 - sumW (headS s d p l.length ++ l)) := by
  have hh := headS_bytes s d p l.length p0 p1
  unfold sum_Of.f
  rw [head_f 3 s d p _ s0 s1 d0 d1]
  simp only [Option.bind_some]
  rw [if_pos ⟨hh, hb, by rw [headS_len]; omega, by omega⟩, of_tt _ _ hh hb (by rw [headS_len])]
end Go.Proofs.Ytfmfpofbefgbgaa.PGramT
namespace Go.Proofs.Ytfmfpofbefgbgaa.PGramT
open Go.RowKit Go.Proofs.YtfmfpofbefgbgaaW.PrintWords Go.Proofs.YtfmfpofbefgbgaaW.PrintLast Go.Proofs.YtfmfpofbefgbgaaW.PrintMore Go.Proofs.Ytfmfpofbefgbgaa.Ar Go.Proofs.Ytfmfpofbefgbgaa.HSum
set_option linter.unusedVariables false
set_option linter.unusedSimpArgs false

def Bytes (l : List Int) : Prop := ∀ x ∈ l, 0 ≤ x ∧ x ≤ 255
theorem Bytes.at_ {l : List Int} (h : Bytes l) (i : Int) : 0 ≤ rd l i ∧ rd l i ≤ 255 := by
  unfold rd
  rw [List.getD_eq_getElem?_getD]
  rcases Nat.lt_or_ge i.toNat l.length with hi | hi
  · rw [List.getElem?_eq_getElem hi]
    exact h _ (List.getElem_mem hi)
  · rw [List.getElem?_eq_none hi]
    simp

/-- The bytes from a place on, or the error's number. -/
def viewS (l : List Int) (at_ n : Int) : List Int × Int :=
  if at_ < 0 ∨ at_ > l.length then ([], 8) else if n < 0 then ([], 1) else if n > l.length - at_ then ([], 2) else ((l.take (at_ + n).toNat).drop at_.toNat, 0)

theorem view_f (k : Nat) (l : List Int) (i n : Int) (hl : l.length ≤ 140737488351232) (i0 : -9223372036854775808 ≤ i) (i1 : i ≤ 9223372036854775807) (n0 : -9223372036854775808 ≤ n) (n1 : n ≤ 9223372036854775807) :
    octet_view.f (k + 1) l i n = some (viewS l i n) := by
  have hj : ∀ b : Bool, (b = true ↔ (i < 0 ∨ i > l.length)) → octet_view.j0 (k + 1) l i n b = some (viewS l i n) := by
    intro b hb
    simp only [octet_view.j0]
    unfold viewS
    by_cases h : i < 0 ∨ i > l.length
    · rw [if_pos (hb.2 h), if_pos h]
    · rw [if_neg (fun hh => h (hb.1 hh)), if_neg h, w64 (n := (l.length : Int) - i) (by omega) (by omega)]
      by_cases h1 : n < 0
      · rw [if_pos h1, if_pos h1]
      · rw [if_neg h1, if_neg h1]
        by_cases h2 : n > l.length - i
        · rw [if_pos h2, if_pos h2]
        · rw [if_neg h2, if_neg h2, w64 (n := i + n) (by omega) (by omega), if_pos (by omega), if_pos (by omega), if_pos (by omega)]
  unfold octet_view.f
  split
  · rename_i h
    exact hj true ⟨fun _ => .inl h, fun _ => rfl⟩
  · rename_i h
    exact hj _ ⟨fun hh => .inr (of_decide_eq_true hh), fun hh => decide_eq_true (hh.resolve_left h)⟩

theorem viewS_bytes {l : List Int} (h : Bytes l) (i n : Int) : Bytes (viewS l i n).1 := by
  unfold viewS
  repeat' split
  all_goals first | (intro x hx; cases hx) | (intro x hx; exact h x (List.mem_of_mem_take (List.mem_of_mem_drop hx)))

/-! ### numbers read -/
theorem or8 (x b : Int) (x0 : 0 ≤ x) (x1 : x ≤ 16777215) (b0 : 0 ≤ b) (b1 : b ≤ 255) : Go.bits .or .u64 (IntKind.u64.wrap (x * 256)) (IntKind.u64.wrap b) = x * 256 + b := by
  rw [u64w, u64w, show (x * 256) % 18446744073709551616 = x * 256 by omega, show b % 18446744073709551616 = b by omega]
  exact bits_join .u64 64 (by decide) (fun n h0 h1 => by rw [u64w]; omega) 8 (x * 256) b (by omega) (by omega) (by omega) b0 (by omega) (by omega)

/-- 256 n + b, byte by byte. -/
def numF (n : Int) (l : List Int) : Int := l.foldl (fun n b => 256 * n + b) n
def getS (l : List Int) (i n : Int) : Int × Int := (numF 0 (viewS l i n).1, (viewS l i n).2)

theorem numF_bd (l : List Int) (h : Bytes l) : ∀ n : Int, 0 ≤ n → 0 ≤ numF n l ∧ numF n l < (n + 1) * 256 ^ l.length := by
  induction l with
  | nil => intro n h0; simp [numF]; omega
  | cons b l ih =>
    intro n h0
    have hb := h b List.mem_cons_self
    obtain ⟨h1, h2⟩ := ih (fun x hx => h x (List.mem_cons_of_mem _ hx)) (256 * n + b) (by omega)
    refine ⟨h1, Int.lt_of_lt_of_le h2 ?_⟩
    have hp : (0 : Int) ≤ 256 ^ l.length := Int.pow_nonneg (by decide)
    have : (256 * n + b + 1) * 256 ^ l.length ≤ ((n + 1) * 256) * 256 ^ l.length := Int.mul_le_mul_of_nonneg_right (by omega) hp
    rw [List.length_cons, Int.pow_succ, Int.mul_comm (256 ^ l.length) 256, ← Int.mul_assoc]
    exact this

theorem drop_cons (l : List Int) (i : Nat) (h : i < l.length) : l.drop i = rd l i :: l.drop (i + 1) := by
  rw [List.drop_eq_getElem_cons h]
  congr 1
  unfold rd
  rw [Int.toNat_natCast, List.getD_eq_getElem?_getD, List.getElem?_eq_getElem h]
  rfl

theorem get_loop (e : Int) (v : List Int) (hv : Bytes v) (hl : v.length ≤ 4) : ∀ (d i k : Nat) (acc : Int), i + d = v.length → d < k → 0 ≤ acc → acc < 256 ^ i → octet_get.l0 k e acc v v.length i = some (numF acc (v.drop i), e) := by
  intro d
  induction d with
  | zero =>
    intro i k acc hi hk _ _
    obtain ⟨k, rfl⟩ : ∃ m, k = m + 1 := ⟨k - 1, by omega⟩
    simp only [octet_get.l0]
    rw [if_neg (by omega), List.drop_of_length_le (by omega)]
    rfl
  | succ d ih =>
    intro i k acc hi hk h0 h1
    obtain ⟨k, rfl⟩ : ∃ m, k = m + 1 := ⟨k - 1, by omega⟩
    have hr := hv.at_ (i : Int)
    have hp : (256 : Int) ^ i ≤ 16777216 := by
      have : i ≤ 3 := by omega
      rcases (by omega : i = 0 ∨ i = 1 ∨ i = 2 ∨ i = 3) with rfl | rfl | rfl | rfl <;> decide
    simp only [octet_get.l0]
    rw [if_pos (by omega), if_pos (by omega), if_pos (by omega), or8 _ _ h0 (by omega) hr.1 hr.2, w64 (by omega) (by omega)]
    have := ih (i + 1) k (acc * 256 + rd v i) (by omega) (by omega) (by omega) (by rw [Int.pow_succ]; omega)
    rw [show ((i : Int) + 1) = ((i + 1 : Nat) : Int) from rfl, this, drop_cons v i (by omega)]
    simp only [numF, List.foldl_cons]
    rw [Int.mul_comm]

theorem viewS_four (l : List Int) (i n : Int) (h : n ≤ 4) : (viewS l i n).1.length ≤ 4 := by
  unfold viewS
  repeat' split
  all_goals simp
  all_goals omega

theorem get_f (k : Nat) (l : List Int) (i n : Int) (hB : Bytes l) (hl : l.length ≤ 140737488351232) (i0 : -9223372036854775808 ≤ i) (i1 : i ≤ 9223372036854775807) (n0 : 0 ≤ n) (n1 : n ≤ 4) :
    octet_get.f (k + 5) l i n = some (getS l i n) := by
  unfold octet_get.f
  rw [view_f (k + 4) l i n hl i0 i1 (by omega) (by omega)]
  simp only [Option.bind_some]
  have h4 := viewS_four l i n n1
  have := get_loop (viewS l i n).2 (viewS l i n).1 (viewS_bytes hB i n) h4 (viewS l i n).1.length 0 (k + 5) 0 (by omega) (by omega) (by omega) (by simp)
  rw [List.drop_zero] at this
  exact this

theorem getS_bd (l : List Int) (hB : Bytes l) (i n : Int) : 0 ≤ (getS l i n).1 ∧ (getS l i n).1 < 256 ^ (viewS l i n).1.length := by
  have := numF_bd _ (viewS_bytes hB i n) 0 (by omega)
  rw [Int.zero_add, Int.one_mul] at this
  exact this
theorem viewS_len_n (l : List Int) (i n : Int) (h : 0 ≤ n) : (viewS l i n).1.length ≤ n.toNat := by
  unfold viewS
  repeat' split
  all_goals simp
  all_goals omega
theorem pow_le256 {a b : Nat} (h : a ≤ b) : (256 : Int) ^ a ≤ 256 ^ b := by
  have e : ∀ c : Nat, ((256 ^ c : Nat) : Int) = (256 : Int) ^ c := fun c => Int.natCast_pow 256 c
  rw [← e, ← e]
  exact Int.ofNat_le.2 (Nat.pow_le_pow_right (by decide) h)

theorem get16_f (k : Nat) (l : List Int) (i : Int) (hB : Bytes l) (hl : l.length ≤ 140737488351232) (i0 : -9223372036854775808 ≤ i) (i1 : i ≤ 9223372036854775807) :
    octet_Get16.f (k + 5) l i = some (getS l i 2) := by
  unfold octet_Get16.f
  rw [get_f k l i 2 hB hl i0 i1 (by omega) (by omega)]
  simp only [Option.bind_some]
  have := getS_bd l hB i 2
  have h2 := pow_le256 (viewS_len_n l i 2 (by omega))
  rw [w64 (by omega) (by have : (256 : Int) ^ (2 : Int).toNat = 65536 := by decide
                         omega)]
theorem rd_view (l : List Int) (i n j : Nat) (h : i + n ≤ l.length) (hj : j < n) : rd ((l.take (i + n)).drop i) j = rd l ((i + j : Nat) : Int) := by
  unfold rd
  simp only [Int.toNat_natCast]
  rw [List.getD_eq_getElem?_getD, List.getD_eq_getElem?_getD, List.getElem?_drop, List.getElem?_take, if_pos (by omega)]

theorem getS_four (l : List Int) (i n : Nat) (h : i + n ≤ l.length) : getS l i n = (numF 0 ((l.take (i + n)).drop i), 0) := by
  unfold getS viewS
  rw [if_neg (by omega), if_neg (by omega), if_neg (by omega)]
  rfl
/-- Two bytes as a number. -/
def w2 (l : List Int) (i : Int) : Int := 256 * rd l i + rd l (i + 1)
theorem view_two (l : List Int) (i : Nat) (h : i + 2 ≤ l.length) : (l.take (i + 2)).drop i = [rd l i, rd l ((i + 1 : Nat) : Int)] := by
  have hv : ((l.take (i + 2)).drop i).length = 2 := by rw [List.length_drop, List.length_take]; omega
  have h0 := rd_view l i 2 0 h (by omega)
  have h1 := rd_view l i 2 1 h (by omega)
  generalize (l.take (i + 2)).drop i = v at *
  match v, hv with
  | [a, b], _ =>
    have e0 : a = rd l ((i + 0 : Nat) : Int) := h0
    have e1 : b = rd l ((i + 1 : Nat) : Int) := h1
    rw [e0, e1]
    rfl
theorem getS2 (l : List Int) (i : Nat) (h : i + 2 ≤ l.length) : getS l i 2 = (w2 l i, 0) := by
  rw [show (2 : Int) = ((2 : Nat) : Int) from rfl, getS_four l i 2 h, view_two l i h]
  unfold numF w2
  simp only [List.foldl_cons, List.foldl_nil]
  rw [show ((i : Int) + 1) = ((i + 1 : Nat) : Int) by omega, show 256 * (256 * 0 + rd l i) = 256 * rd l i by omega]
theorem w2_bd (l : List Int) (hB : Bytes l) (i : Int) : 0 ≤ w2 l i ∧ w2 l i ≤ 65535 := by
  have := hB.at_ i
  have := hB.at_ (i + 1)
  unfold w2
  omega
end Go.Proofs.Ytfmfpofbefgbgaa.PGramT
namespace Go.Proofs.Ytfmfpofbefgbgaa.PGramT
open Go.RowKit Go.Proofs.YtfmfpofbefgbgaaW.PrintWords Go.Proofs.YtfmfpofbefgbgaaW.PrintLast Go.Proofs.YtfmfpofbefgbgaaW.PrintMore Go.Proofs.Ytfmfpofbefgbgaa.Ar Go.Proofs.Ytfmfpofbefgbgaa.HSum Go.Proofs.Ytfmfpofbefgbgaa.HExt Go.Proofs.Ytfmfpofbefgbgaa.HBare
set_option linter.unusedVariables false
set_option linter.unusedSimpArgs false

theorem gram_code (x : Int) : towropelaw08_code.f x = some x := rfl
/-- A datagram's bytes with a check sum. -/
def bytesG (a0 a1 c : Int) (l : List Int) : List Int := twoS a0 ++ (twoS a1 ++ (twoS (8 + (l.length : Int)) ++ (twoS c ++ l)))
theorem bytesG_len (a0 a1 c : Int) (l : List Int) : (bytesG a0 a1 c l).length = l.length + 8 := by
  unfold bytesG twoS
  simp only [List.length_append, List.length_cons, List.length_nil]
  omega
theorem bytesG_bytes (a0 a1 c : Int) {l : List Int} (h : bytesB l = true) : bytesB (bytesG a0 a1 c l) = true :=
  bytesB_append (twoS_bytes _) (bytesB_append (twoS_bytes _) (bytesB_append (twoS_bytes _) (bytesB_append (twoS_bytes _) h)))
theorem put8_f (l : List Int) (n : Int) (hl : l.length + 2 ≤ 140737488355328) : octet_Put16.f 8 l n = some (l ++ twoS n) := put16_f 5 l n hl
theorem bare_f (k : Nat) (a0 a1 : Int) (l : List Int) (h0 : 0 ≤ a0 ∧ a0 ≤ 65535) (h1 : 0 ≤ a1 ∧ a1 ≤ 65535) (hl : l.length ≤ 140737488351232) :
    gram_Bare.f k a0 a1 l = if l.length ≤ 65507 then some (bytesG a0 a1 0 l, 0) else some ([], 9) := by
  unfold gram_Bare.f bareF
  rw [if_pos ⟨h0, h1⟩]
  by_cases h : l.length ≤ 65507
  · rw [if_pos h, if_pos h]
    unfold nums4
    simp only [runG]
    rw [put8_f _ _ (by simp), Option.bind_some, put8_f _ _ (by simp [twoS]), Option.bind_some, put8_f _ _ (by simp [twoS]), Option.bind_some, put8_f _ _ (by simp [twoS]), Option.bind_some, Option.bind_some]
    rw [if_pos (by simp only [twoS, List.length_append, List.length_cons, List.length_nil]; omega)]
    unfold bytesG
    simp only [List.nil_append, List.append_assoc]
  · rw [if_neg h, if_neg h, if_pos hl]
/-- The check sum of a datagram: 0 is sent as all ones. -/
def ckG (s d a0 a1 : Int) (l : List Int) : Int := if 65535 - sumW (headS s d 17 ((bytesG a0 a1 0 l).length : Nat) ++ bytesG a0 a1 0 l) = 0 then 65535 else 65535 - sumW (headS s d 17 ((bytesG a0 a1 0 l).length : Nat) ++ bytesG a0 a1 0 l)
theorem over_six (a0 a1 c : Int) (l : List Int) : over 6 (bytesG a0 a1 0 l) (twoS c) = bytesG a0 a1 c l := by
  unfold over bytesG
  rfl
theorem gramput_f (k : Nat) (s d a0 a1 : Int) (l : List Int) (s0 : 0 ≤ s ∧ s ≤ 4294967295) (d0 : 0 ≤ d ∧ d ≤ 4294967295) (h0 : 0 ≤ a0 ∧ a0 ≤ 65535) (h1 : 0 ≤ a1 ∧ a1 ≤ 65535) (hb : bytesB l = true) (hl : l.length ≤ 140737488351232) :
    gram_Put.f (k + 3) s d a0 a1 l = if l.length ≤ 65507 then some (bytesG a0 a1 (ckG s d a0 a1 l) l, 0) else some ([], 9) := by
  unfold gram_Put.f
  rw [bare_f _ a0 a1 l h0 h1 hl]
  by_cases h : l.length ≤ 65507
  · rw [if_pos h, if_pos h, Option.bind_some]
    have hlen := bytesG_len a0 a1 0 l
    dsimp only
    rw [if_pos rfl, of_f s d 17 _ s0.1 s0.2 d0.1 d0.2 (by omega) (by omega) (by omega) (bytesG_bytes a0 a1 0 hb), Option.bind_some]
    unfold ckG
    split
    · rw [put16_f k [] _ (by simp), Option.bind_some, List.nil_append, if_pos ⟨by rw [hlen]; simp only [twoS, List.length_cons, List.length_nil]; omega, by simp [twoS]⟩, over_six]
    · rw [put16_f k [] _ (by simp), Option.bind_some, List.nil_append, if_pos ⟨by rw [hlen]; simp only [twoS, List.length_cons, List.length_nil]; omega, by simp [twoS]⟩, over_six]
  · rw [if_neg h, if_neg h, Option.bind_some]
    dsimp only
    rw [if_neg (by decide)]
theorem gram_live (k : Nat) : towropelaw08_live.f k = some true := by
  unfold towropelaw08_live.f
  rw [bare_f k 1 2 [9] (by omega) (by omega) (by simp), if_pos (by simp), Option.bind_some]
  decide +kernel

theorem ckG_bd (s d a0 a1 : Int) {l : List Int} (hb : bytesB l = true) : 1 ≤ ckG s d a0 a1 l ∧ ckG s d a0 a1 l ≤ 65535 := by
  have h := sumW_top (bytesB_append (headS_bytes s d 17 ((bytesG a0 a1 0 l).length : Nat) (by omega) (by omega)) (bytesG_bytes a0 a1 0 hb))
  unfold ckG
  split <;> omega
/-- What is got of bytes. -/
def getG (s d : Int) (l : List Int) : Int × Int × List Int × Int :=
  if (l.length : Int) < 8 then (0, 0, [], 2) else if w2 l 4 < 8 then (0, 0, [], 3) else if (l.length : Int) < w2 l 4 then (0, 0, [], 2)
  else if w2 l 6 ≠ 0 ∧ sumW (headS s d 17 ((l.take (w2 l 4).toNat).length : Nat) ++ l.take (w2 l 4).toNat) ≠ 65535 then (0, 0, [], 4)
  else (w2 l 0, w2 l 2, (l.take (w2 l 4).toNat).drop 8, 0)
theorem part_bytesG {l : List Int} (h : bytesB l = true) (m : Nat) : bytesB (l.take m) = true := bytesB_of fun x hx => bytesB_mem h (List.mem_of_mem_take hx)
theorem wrapG (x : Int) (h : 0 ≤ x ∧ x ≤ 65535) : IntKind.u16.wrap x = x := by rw [u16w]; omega
theorem ports_f (k : Nat) (l : List Int) (h : bytesB l = true) (hl : l.length ≤ 140737488351232) : gram_Ports.f (k + 5) l = if (l.length : Int) < 4 then some (0, 0, 2) else some (w2 l 0, w2 l 2, 0) := by
  have hB : Bytes l := fun x hx => bytesB_mem h hx
  unfold gram_Ports.f
  by_cases h4 : (l.length : Int) < 4
  · rw [if_pos h4, if_pos h4]
  · have g0 : getS l 0 2 = (w2 l 0, 0) := getS2 l 0 (by omega)
    have g2 : getS l 2 2 = (w2 l 2, 0) := getS2 l 2 (by omega)
    rw [if_neg h4, if_neg h4, get16_f k l 0 hB hl (by omega) (by omega), Option.bind_some, get16_f k l 2 hB hl (by omega) (by omega), Option.bind_some, g0, g2]
    dsimp only
    rw [wrapG _ (w2_bd l hB 0), wrapG _ (w2_bd l hB 2)]
theorem gramget_f (k : Nat) (s d : Int) (l : List Int) (s0 : 0 ≤ s ∧ s ≤ 4294967295) (d0 : 0 ≤ d ∧ d ≤ 4294967295) (h : bytesB l = true) (hl : l.length ≤ 140737488351232) : gram_Get.f (k + 6) s d l = some (getG s d l) := by
  have hB : Bytes l := fun x hx => bytesB_mem h hx
  have b4 := w2_bd l hB 4
  have b6 := w2_bd l hB 6
  have hj : ∀ b : Bool, 8 ≤ w2 l 4 → w2 l 4 ≤ (l.length : Int) → gram_Get.j0 (k + 6) l (w2 l 4) b = some (if b = true then (0, 0, [], 4) else (w2 l 0, w2 l 2, (l.take (w2 l 4).toNat).drop 8, 0)) := by
    intro b h1 h2
    simp only [gram_Get.j0]
    cases b with
    | true => rfl
    | false =>
      rw [if_neg (by simp), ports_f k l h hl, if_neg (by omega), Option.bind_some, if_pos h1, if_pos h2, clone_f _ (by rw [List.length_drop, List.length_take]; omega)]
      rfl
  unfold gram_Get.f getG
  by_cases h8 : (l.length : Int) < 8
  · rw [if_pos h8, if_pos h8]
  have g4 : getS l 4 2 = (w2 l 4, 0) := getS2 l 4 (by omega)
  have g6 : getS l 6 2 = (w2 l 6, 0) := getS2 l 6 (by omega)
  rw [if_neg h8, if_neg h8, get16_f (k + 1) l 4 hB hl (by omega) (by omega), Option.bind_some, get16_f (k + 1) l 6 hB hl (by omega) (by omega), Option.bind_some, g4, g6]
  dsimp only
  by_cases h1 : w2 l 4 < 8
  · rw [if_pos h1, if_pos h1]
  rw [if_neg h1, if_neg h1]
  by_cases h2 : (l.length : Int) < w2 l 4
  · rw [if_pos h2, if_pos h2]
  rw [if_neg h2, if_neg h2]
  by_cases h6 : w2 l 6 = 0
  · rw [if_pos h6, hj false (by omega) (by omega), if_neg (by simp), if_neg (by omega)]
  have hs := sumW_top (bytesB_append (headS_bytes s d 17 ((l.take (w2 l 4).toNat).length : Nat) (by omega) (by omega)) (part_bytesG h (w2 l 4).toNat))
  rw [if_neg h6, if_pos (by omega), if_pos (by omega), of_f s d 17 _ s0.1 s0.2 d0.1 d0.2 (by omega) (by omega) (by rw [List.length_take]; omega) (part_bytesG h _), Option.bind_some, hj _ (by omega) (by omega)]
  congr 1
  by_cases hq : sumW (headS s d 17 ((l.take (w2 l 4).toNat).length : Nat) ++ l.take (w2 l 4).toNat) = 65535
  · rw [hq, if_neg (by simp), if_neg (by simp)]
  · rw [if_pos (by rw [bne_iff_ne]; omega), if_pos ⟨h6, hq⟩]
end Go.Proofs.Ytfmfpofbefgbgaa.PGramT
namespace Go.Proofs.Ytfmfpofbefgbgaa.PGramT
open Go.RowKit Go.Proofs.YtfmfpofbefgbgaaW.PrintWords Go.Proofs.YtfmfpofbefgbgaaW.PrintLast Go.Proofs.YtfmfpofbefgbgaaW.PrintMore Go.Proofs.Ytfmfpofbefgbgaa.Ar Go.Proofs.Ytfmfpofbefgbgaa.HSum Go.Proofs.Ytfmfpofbefgbgaa.HExt Go.Proofs.Ytfmfpofbefgbgaa.HBare
set_option linter.unusedVariables false
set_option linter.unusedSimpArgs false

theorem tt_bytesG (a0 a1 c : Int) (l : List Int) (c0 : 0 ≤ c ∧ c ≤ 65535) : tt (bytesG a0 a1 c l) = tt (twoS a0) + (tt (twoS a1) + (tt (twoS (8 + (l.length : Int))) + (c + tt l))) := by
  unfold bytesG
  rw [tt_append _ _ (by simp [twoS]), tt_append _ _ (by simp [twoS]), tt_append _ _ (by simp [twoS]), tt_append _ _ (by simp [twoS]), tt_two c c0.1 c0.2]
theorem norm_again (t : Int) (h : 0 ≤ t) (hn : 65535 - norm t = 0) : norm (t + 65535) = 65535 := by
  unfold norm at *
  split <;> (split at hn <;> omega)
/-- The sum over head and datagram is all ones, and it is the sum without the check sum and this. -/
theorem sumG (s d a0 a1 : Int) {l : List Int} (hb : bytesB l = true) : ∃ u, 0 ≤ u ∧ tt (headS s d 17 (((l.length + 8 : Nat)) : Int) ++ bytesG a0 a1 (ckG s d a0 a1 l) l) = u + ckG s d a0 a1 l ∧ norm (u + ckG s d a0 a1 l) = 65535 := by
  have hh := headS_bytes s d 17 (((l.length + 8 : Nat)) : Int) (by omega) (by omega)
  have hr := bytesB_append hh (bytesG_bytes a0 a1 0 hb)
  have hc := ckG_bd s d a0 a1 hb
  have h0 := tt_nonneg hr
  have hn := norm_bd _ h0
  have e1 : tt (headS s d 17 (((l.length + 8 : Nat)) : Int) ++ bytesG a0 a1 0 l) = tt (headS s d 17 (((l.length + 8 : Nat)) : Int)) + tt (bytesG a0 a1 0 l) := tt_append _ _ (by rw [headS_len])
  refine ⟨_, h0, ?_, ?_⟩
  · rw [tt_append _ _ (by rw [headS_len]), e1, tt_bytesG a0 a1 0 l (by omega), tt_bytesG a0 a1 _ l (by omega)]
    omega
  · have hs : sumW (headS s d 17 (((l.length + 8 : Nat)) : Int) ++ bytesG a0 a1 0 l) = norm (tt (headS s d 17 (((l.length + 8 : Nat)) : Int) ++ bytesG a0 a1 0 l)) := sumW_tt hr
    have hk : ckG s d a0 a1 l = if 65535 - norm (tt (headS s d 17 (((l.length + 8 : Nat)) : Int) ++ bytesG a0 a1 0 l)) = 0 then 65535 else 65535 - norm (tt (headS s d 17 (((l.length + 8 : Nat)) : Int) ++ bytesG a0 a1 0 l)) := by
      unfold ckG
      rw [bytesG_len, hs]
    rw [hk]
    split
    · rename_i hz
      exact norm_again _ h0 hz
    · exact norm_full _ h0
theorem w2_0 (a b : Int) (t : List Int) : w2 (a :: b :: t) 0 = 256 * a + b := rfl
theorem w2_2 (p q a b : Int) (t : List Int) : w2 (p :: q :: a :: b :: t) 2 = 256 * a + b := rfl
theorem w2_4 (p q r s a b : Int) (t : List Int) : w2 (p :: q :: r :: s :: a :: b :: t) 4 = 256 * a + b := rfl
theorem w2_6 (p q r s u v a b : Int) (t : List Int) : w2 (p :: q :: r :: s :: u :: v :: a :: b :: t) 6 = 256 * a + b := rfl
theorem consG (a0 a1 c : Int) (l m : List Int) : bytesG a0 a1 c l ++ m = a0 % 65536 / 256 :: a0 % 256 :: a1 % 65536 / 256 :: a1 % 256 :: (8 + (l.length : Int)) % 65536 / 256 :: (8 + (l.length : Int)) % 256 :: c % 65536 / 256 :: c % 256 :: (l ++ m) := rfl
theorem gotG (s d a0 a1 c : Int) (l m : List Int) (h0 : 0 ≤ a0 ∧ a0 ≤ 65535) (h1 : 0 ≤ a1 ∧ a1 ≤ 65535) (c0 : 0 ≤ c ∧ c ≤ 65535) (hl : l.length ≤ 65507)
    (hs : c = 0 ∨ sumW (headS s d 17 (((l.length + 8 : Nat)) : Int) ++ bytesG a0 a1 c l) = 65535) : getG s d (bytesG a0 a1 c l ++ m) = (a0, a1, l, 0) := by
  have hlen := bytesG_len a0 a1 c l
  have e0 : w2 (bytesG a0 a1 c l ++ m) 0 = a0 := by rw [consG, w2_0]; omega
  have e2 : w2 (bytesG a0 a1 c l ++ m) 2 = a1 := by rw [consG, w2_2]; omega
  have e4 : w2 (bytesG a0 a1 c l ++ m) 4 = 8 + (l.length : Int) := by rw [consG, w2_4]; omega
  have e6 : w2 (bytesG a0 a1 c l ++ m) 6 = c := by rw [consG, w2_6]; omega
  have et : (bytesG a0 a1 c l ++ m).take (8 + (l.length : Int)).toNat = bytesG a0 a1 c l := by
    rw [show (8 + (l.length : Int)).toNat = (bytesG a0 a1 c l).length by rw [hlen]; omega, List.take_left']
    rfl
  have ed : (bytesG a0 a1 c l).drop 8 = l := rfl
  unfold getG
  rw [e4, e6, e0, e2, et, ed, hlen, if_neg (by rw [List.length_append, hlen]; omega), if_neg (by omega), if_neg (by rw [List.length_append, hlen]; omega), if_neg]
  rintro ⟨h6, h7⟩
  rcases hs with hs | hs
  · exact h6 hs
  · exact h7 hs
end Go.Proofs.Ytfmfpofbefgbgaa.PGramT
namespace Go.Proofs.Ytfmfpofbefgbgaa.Pure
open Go.RowKit Go.Proofs.Ytfmfpofbefgbgaa.PGramT Go.Proofs.YtfmfpofbefgbgaaW.PrintWords Go.Proofs.YtfmfpofbefgbgaaW.PrintLast Go.Proofs.YtfmfpofbefgbgaaW.PrintMore Go.Proofs.Ytfmfpofbefgbgaa.Ar Go.Proofs.Ytfmfpofbefgbgaa.HSum Go.Proofs.Ytfmfpofbefgbgaa.HExt Go.Proofs.Ytfmfpofbefgbgaa.HBare
set_option linter.unusedVariables false
set_option linter.unusedSimpArgs false

/-- Two bytes of the data are set. -/
theorem set_bytesG (a0 a1 c x y : Int) (l : List Int) (j : Nat) : ((bytesG a0 a1 c l).set (8 + j) x).set (9 + j) y = twoS a0 ++ (twoS a1 ++ (twoS (8 + (l.length : Int)) ++ (twoS c ++ ((l.set j x).set (j + 1) y)))) := by
  unfold bytesG
  have h2 : ∀ n, (twoS n).length = 2 := fun _ => rfl
  rw [List.set_append_right _ _ (by rw [h2]; omega), h2, List.set_append_right _ _ (by rw [h2]; omega), h2, List.set_append_right _ _ (by rw [h2]; omega), h2, List.set_append_right _ _ (by rw [h2]; omega), h2,
    List.set_append_right _ _ (by rw [h2]; omega), h2, List.set_append_right _ _ (by rw [h2]; omega), h2, List.set_append_right _ _ (by rw [h2]; omega), h2, List.set_append_right _ _ (by rw [h2]; omega), h2,
    show 8 + j - 2 - 2 - 2 - 2 = j by omega, show 9 + j - 2 - 2 - 2 - 2 = j + 1 by omega]
theorem setG (a0 a1 c x y : Int) (l : List Int) (j : Nat) : ((bytesG a0 a1 c l).set (8 + j) x).set (9 + j) y = bytesG a0 a1 c ((l.set j x).set (j + 1) y) := by
  rw [set_bytesG]
  unfold bytesG
  rw [List.length_set, List.length_set]
theorem rdG (a0 a1 c : Int) (l : List Int) (j : Nat) : rd (bytesG a0 a1 c l) ((8 + j : Nat) : Int) = rd l (j : Int) := by
  have e : bytesG a0 a1 c l = a0 % 65536 / 256 :: a0 % 256 :: a1 % 65536 / 256 :: a1 % 256 :: (8 + (l.length : Int)) % 65536 / 256 :: (8 + (l.length : Int)) % 256 :: c % 65536 / 256 :: c % 256 :: l := rfl
  unfold rd
  rw [e, Int.toNat_natCast, Int.toNat_natCast, show 8 + j = j + 8 by omega]
  rfl
theorem norm_other (t was now : Int) (h : norm t = 65535) (ht : 1 ≤ t - was) (w0 : 0 ≤ was ∧ was ≤ 65535) (n0 : 0 ≤ now ∧ now ≤ 65535) : norm (t - was + now) = 65535 ↔ (was = now ∨ (was + now = 65535 ∧ (was = 0 ∨ now = 0))) := by
  unfold norm at *
  constructor
  · intro h2
    split at h2 <;> (split at h <;> omega)
  · intro h2
    split <;> (split at h <;> omega)
theorem gramturned_j2 (k : Nat) (e : Int) (b : Bool) (a0 a1 : Int) (l : List Int) (x0 x1 : Int) (m : List Int) (h : if b = true then e = 0 ∧ m.length = l.length else e = 4 ∧ m.length = 0) : towropelaw08_GramTurned.j2 (k + 1) e b a0 a1 l x0 x1 m = some true := by
  simp only [towropelaw08_GramTurned.j2]
  cases b with
  | true =>
    rw [if_pos rfl] at h
    rw [if_pos rfl, gram_code, Option.bind_some, if_pos h.1, if_pos (by omega), gram_live, Option.bind_some]
  | false =>
    rw [if_neg (by simp)] at h
    rw [if_neg (by simp), gram_code, Option.bind_some, if_pos h.1, if_pos (by omega), gram_live, Option.bind_some]
theorem turned_at (x : Int) (n : Nat) (h2 : 2 ≤ n) (hl : n ≤ 1000) (x0 : 0 ≤ x ∧ x ≤ 65535) : ∃ j : Nat, 2 * j + 1 < n ∧ wrap64 ((n : Int) / 2) ≠ 0 ∧ wrap64 (8 + wrap64 (Int.tmod (wrap64 x) (wrap64 ((n : Int) / 2)) * 2)) = ((8 + 2 * j : Nat) : Int) ∧
    wrap64 (9 + wrap64 (Int.tmod (wrap64 x) (wrap64 ((n : Int) / 2)) * 2)) = ((8 + (2 * j + 1) : Nat) : Int) := by
  obtain ⟨q, hq⟩ : ∃ q : Nat, q = n / 2 := ⟨_, rfl⟩
  have ehalf : wrap64 ((n : Int) / 2) = (q : Int) := by rw [w64 (by omega) (by omega)]; omega
  have q0 : (q : Int) ≠ 0 := by omega
  have q1 : (0 : Int) < q := by omega
  have m0 := Int.emod_nonneg x q0
  have m1 := Int.emod_lt_of_pos x q1
  have et : Int.tmod (wrap64 x) (wrap64 ((n : Int) / 2)) = x % (q : Int) := by rw [ehalf, w64 (n := x) (by omega) (by omega), tm _ _ x0.1]
  rw [et, ehalf]
  clear et ehalf
  generalize x % (q : Int) = y at *
  refine ⟨y.toNat, by omega, q0, ?_, ?_⟩
  · rw [w64 (n := y * 2) (by omega) (by omega), w64 (by omega) (by omega)]
    omega
  · rw [w64 (n := y * 2) (by omega) (by omega), w64 (by omega) (by omega)]
    omega
/-- The pair at byte j, and what came in its place: is it the same number modulo 65535? -/
def Good (p r now : Int) : Prop := 256 * p + r = now ∨ (256 * p + r + now = 65535 ∧ (256 * p + r = 0 ∨ now = 0))
instance (p r now : Int) : Decidable (Good p r now) := by unfold Good; exact inferInstance
theorem turned_len (l : List Int) (j : Nat) (a b : Int) : ((l.set j a).set (j + 1) b).length = l.length := by rw [List.length_set, List.length_set]
theorem turned_bytesG {l : List Int} (hb : bytesB l = true) (j : Nat) (a b : Int) (ha : 0 ≤ a ∧ a ≤ 255) (hb2 : 0 ≤ b ∧ b ≤ 255) : bytesB ((l.set j a).set (j + 1) b) = true := by
  refine bytesB_of fun z hz => ?_
  rcases List.mem_or_eq_of_mem_set hz with hz | rfl
  · rcases List.mem_or_eq_of_mem_set hz with hz | rfl
    · exact bytesB_mem hb hz
    · exact ha
  · exact hb2
theorem turned_sumG (s d a0 a1 now : Int) (l : List Int) (j : Nat) (hb : bytesB l = true) (hj : 2 * j + 1 < l.length) (n0 : 0 ≤ now ∧ now ≤ 65535) :
    (sumW (headS s d 17 (((l.length + 8 : Nat)) : Int) ++ bytesG a0 a1 (ckG s d a0 a1 l) ((l.set (2 * j) (now / 256)).set (2 * j + 1) (now % 256))) = 65535) ↔ Good (rd l ((2 * j : Nat) : Int)) (rd l ((2 * j + 1 : Nat) : Int)) now := by
  have hc := ckG_bd s d a0 a1 hb
  obtain ⟨u, u0, hu, hn⟩ := sumG s d a0 a1 hb
  have hB : Bytes l := fun x hx => bytesB_mem hb hx
  have r8 := hB.at_ ((2 * j : Nat) : Int)
  have r9 := hB.at_ ((2 * j + 1 : Nat) : Int)
  have hh := headS_bytes s d 17 (((l.length + 8 : Nat)) : Int) (by omega) (by omega)
  have hb' := turned_bytesG hb (2 * j) (now / 256) (now % 256) (by omega) (by omega)
  have hz := turned_bytesG hb (2 * j) 0 0 (by omega) (by omega)
  have htl := tt_set j l (now / 256) (now % 256) hj
  have h3 := tt_set j l 0 0 hj
  have h4 := tt_nonneg hz
  have h5 := tt_nonneg hh
  have h6 := tt_nonneg (twoS_bytes a0)
  have h7 := tt_nonneg (twoS_bytes a1)
  have h8 := tt_nonneg (twoS_bytes (8 + (l.length : Int)))
  have hc2 : 0 ≤ ckG s d a0 a1 l ∧ ckG s d a0 a1 l ≤ 65535 := ⟨by omega, hc.2⟩
  have h9 := tt_append (headS s d 17 (((l.length + 8 : Nat)) : Int)) (bytesG a0 a1 (ckG s d a0 a1 l) l) (by rw [headS_len])
  rw [tt_bytesG _ _ _ _ hc2, hu] at h9
  rw [sumW_tt (bytesB_append hh (bytesG_bytes a0 a1 _ hb')), tt_append _ _ (by rw [headS_len]), tt_bytesG _ _ _ _ hc2, turned_len, htl]
  unfold Good
  generalize tt (headS s d 17 (((l.length + 8 : Nat)) : Int)) = x1 at *
  generalize tt (twoS a0) = x2 at *
  generalize tt (twoS a1) = x3 at *
  generalize tt (twoS (8 + (l.length : Int))) = x4 at *
  generalize ckG s d a0 a1 l = c at *
  generalize tt ((l.set (2 * j) 0).set (2 * j + 1) 0) = x5 at *
  generalize tt l = x6 at *
  generalize rd l ((2 * j : Nat) : Int) = p at *
  generalize rd l ((2 * j + 1 : Nat) : Int) = r at *
  clear hz hb' hh hB hb htl hu hj
  have hw := norm_other (u + c) (p * 256 + r) now hn (by omega) (by omega) n0
  rw [show x1 + (x2 + (x3 + (x4 + (c + (x6 - (p * 256 + r) + (now / 256 * 256 + now % 256)))))) = u + c - (p * 256 + r) + now by omega, hw]
  constructor <;> intro h <;> omega
theorem turned_getG (k : Nat) (s d a0 a1 now : Int) (l : List Int) (j : Nat) (s0 : 0 ≤ s ∧ s ≤ 4294967295) (d0 : 0 ≤ d ∧ d ≤ 4294967295) (h0 : 0 ≤ a0 ∧ a0 ≤ 65535) (h1 : 0 ≤ a1 ∧ a1 ≤ 65535) (hb : bytesB l = true) (hl : l.length ≤ 1000) (hj : 2 * j + 1 < l.length) (n0 : 0 ≤ now ∧ now ≤ 65535) :
    gram_Get.f (k + 6) s d (bytesG a0 a1 (ckG s d a0 a1 l) ((l.set (2 * j) (now / 256)).set (2 * j + 1) (now % 256))) =
      some (if Good (rd l ((2 * j : Nat) : Int)) (rd l ((2 * j + 1 : Nat) : Int)) now then (a0, a1, (l.set (2 * j) (now / 256)).set (2 * j + 1) (now % 256), 0) else (0, 0, [], 4)) := by
  have hc := ckG_bd s d a0 a1 hb
  have hb' := turned_bytesG hb (2 * j) (now / 256) (now % 256) (by omega) (by omega)
  have hs := turned_sumG s d a0 a1 now l j hb hj n0
  have hl' := turned_len l (2 * j) (now / 256) (now % 256)
  generalize (l.set (2 * j) (now / 256)).set (2 * j + 1) (now % 256) = l' at *
  have hlen' := bytesG_len a0 a1 (ckG s d a0 a1 l) l'
  generalize ckG s d a0 a1 l = c at *
  rw [gramget_f k s d _ s0 d0 (bytesG_bytes a0 a1 c hb') (by omega)]
  congr 1
  by_cases hg : Good (rd l ((2 * j : Nat) : Int)) (rd l ((2 * j + 1 : Nat) : Int)) now
  · have g1 := gotG s d a0 a1 c l' [] h0 h1 (by omega) (by omega) (.inr (by rw [hl']; exact hs.2 hg))
    rw [List.append_nil] at g1
    rw [if_pos hg, g1]
  · have e4 : w2 (bytesG a0 a1 c l') 4 = 8 + (l'.length : Int) := by rw [← List.append_nil (bytesG _ _ _ _), consG, w2_4]; omega
    have e6 : w2 (bytesG a0 a1 c l') 6 = c := by rw [← List.append_nil (bytesG _ _ _ _), consG, w2_6]; omega
    have et : (bytesG a0 a1 c l').take (8 + (l'.length : Int)).toNat = bytesG a0 a1 c l' := List.take_of_length_le (by rw [hlen']; omega)
    rw [if_neg hg]
    unfold getG
    rw [e4, e6, et, hlen', if_neg (by omega), if_neg (by omega), if_neg (by omega), if_pos ⟨by omega, by rw [hl']; exact fun h => hg (hs.1 h)⟩]
theorem gramturned_j1 (k : Nat) (s d a0 a1 x now : Int) (l : List Int) (s0 : 0 ≤ s ∧ s ≤ 4294967295) (d0 : 0 ≤ d ∧ d ≤ 4294967295) (h0 : 0 ≤ a0 ∧ a0 ≤ 65535) (h1 : 0 ≤ a1 ∧ a1 ≤ 65535) (hb : bytesB l = true) (hl : l.length ≤ 1000) (h2 : 2 ≤ l.length)
    (x0 : 0 ≤ x ∧ x ≤ 65535) (n0 : 0 ≤ now ∧ now ≤ 65535) : towropelaw08_GramTurned.j1 (k + 8) x now s d (bytesG a0 a1 (ckG s d a0 a1 l) l) false a0 a1 l = some true := by
  have hlen := bytesG_len a0 a1 (ckG s d a0 a1 l) l
  obtain ⟨j, hj, hq, e8, e9⟩ := turned_at x l.length h2 hl x0
  have hB : Bytes l := fun x hx => bytesB_mem hb hx
  have r8 := hB.at_ ((2 * j : Nat) : Int)
  have r9 := hB.at_ ((2 * j + 1 : Nat) : Int)
  have en1 : IntKind.u16.wrap (Int.tdiv now 256) % 256 = now / 256 := by rw [td _ _ n0.1, u16w]; omega
  have en2 : Int.tmod now 256 % 256 = now % 256 := by rw [tm _ _ n0.1]; omega
  have hg := turned_getG (k + 1) s d a0 a1 now l j s0 d0 h0 h1 hb hl hj n0
  have hl' := turned_len l (2 * j) (now / 256) (now % 256)
  simp only [towropelaw08_GramTurned.j1]
  rw [e8, e9, if_neg (by simp), if_neg hq, if_pos (by omega), if_pos (by omega), if_pos (by omega), if_pos (by omega), en1, en2, Int.toNat_natCast, Int.toNat_natCast, rdG, rdG, show 8 + (2 * j + 1) = 9 + 2 * j by omega, setG, hg, Option.bind_some]
  generalize (l.set (2 * j) (now / 256)).set (2 * j + 1) (now % 256) = l' at *
  generalize rd l ((2 * j : Nat) : Int) = p at *
  generalize rd l ((2 * j + 1 : Nat) : Int) = r at *
  clear hg e8 e9 hlen
  rw [w64 (n := p) (by omega) (by omega), w64 (n := 256 * p) (by omega) (by omega), w64 (n := r) (by omega) (by omega), w64 (n := 256 * p + r) (by omega) (by omega), w64 (n := now) (by omega) (by omega)]
  by_cases hs : Good p r now
  · rw [if_pos hs]
    dsimp only
    by_cases h5 : 256 * p + r = now
    · rw [if_pos h5]
      exact gramturned_j2 _ _ _ _ _ _ _ _ _ ⟨rfl, hl'⟩
    · obtain ⟨h, h'⟩ := hs.resolve_left h5
      have hz : (256 * p + r) * now = 0 := by
        rcases h' with h' | h'
        · rw [h', Int.zero_mul]
        · rw [h', Int.mul_zero]
      rw [if_neg h5, w64 (n := 256 * p + r + now) (by omega) (by omega), if_pos (by omega), hz, show (wrap64 0 == 0) = true from by decide +kernel]
      exact gramturned_j2 _ _ _ _ _ _ _ _ _ ⟨rfl, hl'⟩
  · rw [if_neg hs]
    dsimp only
    rw [if_neg (fun h => hs (.inl h))]
    by_cases h4 : 256 * p + r + now = 65535
    · have hp : ¬ (256 * p + r) * now = 0 := fun h => hs (.inr ⟨h4, Int.mul_eq_zero.1 h⟩)
      have b0 : 0 ≤ (256 * p + r) * now := Int.mul_nonneg (by omega) n0.1
      have b1 : (256 * p + r) * now ≤ 65535 * 65535 := Int.mul_le_mul (by omega) n0.2 n0.1 (by omega)
      rw [w64 (n := 256 * p + r + now) (by omega) (by omega), if_pos h4, w64 (n := (256 * p + r) * now) (by omega) (by omega), show ((256 * p + r) * now == 0) = false from beq_eq_false_iff_ne.2 hp]
      exact gramturned_j2 _ _ _ _ _ _ _ _ _ ⟨rfl, rfl⟩
    · rw [w64 (n := 256 * p + r + now) (by omega) (by omega), if_neg h4]
      exact gramturned_j2 _ _ _ _ _ _ _ _ _ ⟨rfl, rfl⟩
theorem GramTurned : GramTurnedSt := by
  intro s d a0 a1 l x now hs hd h0 h1 _ hw hx hnow
  have hb := bytesB_wf hw
  have s0 := bounds_u32 hs
  have d0 := bounds_u32 hd
  have q0 := bounds_u16 h0
  have q1 := bounds_u16 h1
  have g : ∀ b : Bool, (b = false → l.length ≤ 1000 ∧ 2 ≤ l.length) → towropelaw08_GramTurned.j0 10 s d x now b a0 a1 l = some true := by
    intro b hc
    simp only [towropelaw08_GramTurned.j0]
    cases b with
    | true => rw [if_pos rfl, gram_live, Option.bind_some]
    | false =>
      obtain ⟨hl, h2⟩ := hc rfl
      rw [if_neg (by simp), gramput_f 6 s d a0 a1 l s0 d0 q0 q1 hb (by omega), if_pos (by omega), Option.bind_some]
      dsimp only
      rw [gram_code, Option.bind_some, if_pos rfl, bytesG_len, w64 (by omega) (by omega), show ((((l.length + 8 : Nat)) : Int) != 8 + (l.length : Int)) = false from by rw [bne_eq_false_iff_eq]; omega]
      exact gramturned_j1 1 s d a0 a1 x now l s0 d0 q0 q1 hb hl h2 (bounds_u16 hx) (bounds_u16 hnow)
  refine ⟨10, ?_⟩
  unfold towropelaw08_GramTurned.f
  by_cases h7 : (l.length : Int) > 1000
  · rw [if_pos h7]
    exact g true (by simp)
  · rw [if_neg h7]
    exact g _ (fun hz => by have := of_decide_eq_false hz; omega)
end Go.Proofs.Ytfmfpofbefgbgaa.Pure
