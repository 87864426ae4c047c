/- For all bytes: what is got, and put, is its own bytes up to the length, but for a check sum of all ones in place of nought. No conditions. -/
import Derived.Test.YtdphjljbdodonaaPIpBx1
import Derived.Test.YtdphjljbdodonaaPIpBx2
import Derived.Test.YtdphjljbdodonaaPIpBx3
import Derived.Test.YtdphjljbdodonaaPIpBx4
import Derived.Test.YtdphjljbdodonaaPIpBx5
import Derived.Test.YtdphjljbdodonaaPIpBx6
import Derived.Test.YtdphjljbdodonaaPIpBx7
import Derived.Test.YtdphjljbdodonaaPIpBx8
import Derived.Test.YtdphjljbdodonaaAr
import Derived.Test.YtdphjljbdodonaaHSum
import Derived.Test.YtdphjljbdodonaaQIpBack
namespace Go.Proofs.Ytdphjljbdodonaa.PIpB
open Go.RowKit Go.Proofs.YtdphjljbdodonaaW.PrintWords Go.Proofs.YtdphjljbdodonaaW.PrintLast Go.Proofs.YtdphjljbdodonaaW.PrintMore Go.Proofs.Ytdphjljbdodonaa.Ar Go.Proofs.Ytdphjljbdodonaa.HSum
set_option linter.unusedVariables false
set_option linter.unusedSimpArgs false

theorem bytesB_of {l : List Int} (h : ∀ x ∈ l, 0 ≤ x ∧ x ≤ 255) : bytesB l = true := by
  unfold bytesB
  rw [List.all_eq_true]
  intro x hx
  have := h x hx
  simpa using this
theorem bytesB_wf {l : List Int} (h : ∀ x ∈ l, (Lit.int .u8 x).wf = true) : bytesB l = true := bytesB_of fun x hx => bounds_u8 (h x hx)
theorem bytesB_mem {l : List Int} (h : bytesB l = true) {x : Int} (hx : x ∈ l) : 0 ≤ x ∧ x ≤ 255 := by
  have := List.all_eq_true.1 h x hx
  simpa using this

theorem or_i64 (x b : Int) (x0 : 0 ≤ x) (x1 : x ≤ 255) (b0 : 0 ≤ b) (b1 : b ≤ 255) : Go.bits .or .i64 (x * 256) b = x * 256 + b :=
  bits_join .i64 63 (by decide) (fun n h0 h1 => by rw [IntKind.wrap_i64]; omega) 8 (x * 256) b (by omega) (by omega) (by omega) b0 (by omega) (by omega)

/-- The pair at byte j, as a number. -/
def pair (l : List Int) (j : Nat) : Int := rd l j * 256 + (if j + 1 < l.length then rd l ((j + 1 : Nat) : Int) else 0)
theorem pr_pair {l : List Int} (h : bytesB l = true) (j : Nat) : pr l j = pair l j := by
  unfold pr pair
  have h0 := bytes_rd h (j : Int)
  have h1 := bytes_rd h ((j + 1 : Nat) : Int)
  split
  · exact or_i64 _ _ h0.1 h0.2 h1.1 h1.2
  · omega
theorem pair_bd {l : List Int} (h : bytesB l = true) (j : Nat) : 0 ≤ pair l j ∧ pair l j ≤ 65535 := by
  have h0 := bytes_rd h (j : Int)
  have h1 := bytes_rd h ((j + 1 : Nat) : Int)
  unfold pair
  split <;> omega

def norm (t : Int) : Int := if t = 0 then 0 else (t - 1) % 65535 + 1
theorem norm_add (t p : Int) (ht : 0 ≤ t) (p0 : 0 ≤ p) (p1 : p ≤ 65535) : addF (norm t) p = norm (t + p) := by
  unfold norm addF
  repeat' split
  all_goals omega
theorem norm_bd (t : Int) (h : 0 ≤ t) : 0 ≤ norm t ∧ norm t ≤ 65535 := by
  unfold norm
  split <;> omega
theorem foldW_norm (ps : List Int) (h : ∀ p ∈ ps, 0 ≤ p ∧ p ≤ 65535) : ∀ t : Int, 0 ≤ t → foldW (norm t) ps = norm (t + ps.sum) := by
  induction ps with
  | nil => intro t _; simp [foldW]
  | cons p ps ih =>
    intro t ht
    have hp := h p List.mem_cons_self
    have hc : foldW (norm t) (p :: ps) = foldW (addF (norm t) p) ps := rfl
    rw [hc, norm_add t p ht hp.1 hp.2, ih (fun q hq => h q (List.mem_cons_of_mem _ hq)) (t + p) (by omega), List.sum_cons, Int.add_assoc]

theorem all_bd {l : List Int} (h : bytesB l = true) : ∀ p ∈ HSum.all l, 0 ≤ p ∧ p ≤ 65535 := by
  intro p hp
  unfold HSum.all pre at hp
  obtain ⟨k, _, rfl⟩ := List.mem_map.1 hp
  rw [pr_pair h]
  exact pair_bd h _
theorem sum_nonneg (ps : List Int) (h : ∀ p ∈ ps, 0 ≤ p ∧ p ≤ 65535) : 0 ≤ ps.sum := by
  induction ps with
  | nil => simp
  | cons p ps ih =>
    rw [List.sum_cons]
    have := h p List.mem_cons_self
    have := ih (fun q hq => h q (List.mem_cons_of_mem _ hq))
    omega
theorem sumW_norm {l : List Int} (h : bytesB l = true) : sumW l = norm (HSum.all l).sum := by
  unfold sumW
  have := foldW_norm (HSum.all l) (all_bd h) 0 (by omega)
  rw [show norm 0 = 0 from rfl, Int.zero_add] at this
  exact this
theorem all_nonneg {l : List Int} (h : bytesB l = true) : 0 ≤ (HSum.all l).sum := sum_nonneg _ (all_bd h)
theorem sumW_top {l : List Int} (h : bytesB l = true) : 0 ≤ sumW l ∧ sumW l ≤ 65535 := by
  rw [sumW_norm h]
  exact norm_bd _ (all_nonneg h)
end Go.Proofs.Ytdphjljbdodonaa.PIpB
namespace Go.Proofs.Ytdphjljbdodonaa.PIpB
open Go.RowKit Go.Proofs.YtdphjljbdodonaaW.PrintWords Go.Proofs.YtdphjljbdodonaaW.PrintLast Go.Proofs.YtdphjljbdodonaaW.PrintMore Go.Proofs.Ytdphjljbdodonaa.Ar Go.Proofs.Ytdphjljbdodonaa.HSum
set_option linter.unusedVariables false
set_option linter.unusedSimpArgs false

def tt : List Int → Int
  | a :: b :: t => a * 256 + b + tt t
  | [a] => a * 256
  | [] => 0

theorem rd_two (a b : Int) (t : List Int) (j : Nat) : rd (a :: b :: t) ((j + 2 : Nat) : Int) = rd t j := by
  unfold rd
  simp only [Int.toNat_natCast]
  rfl
theorem pair_two (a b : Int) (t : List Int) (j : Nat) : pair (a :: b :: t) (j + 2) = pair t j := by
  unfold pair
  rw [rd_two, show j + 2 + 1 = (j + 1) + 2 from rfl, rd_two]
  simp only [List.length_cons]
  congr 1
  by_cases h : j + 1 < t.length
  · rw [if_pos h, if_pos (by omega)]
  · rw [if_neg h, if_neg (by omega)]
theorem bytesB_cons {a : Int} {t : List Int} (h : bytesB (a :: t) = true) : (0 ≤ a ∧ a ≤ 255) ∧ bytesB t = true :=
  ⟨bytesB_mem h List.mem_cons_self, bytesB_of fun _ hx => bytesB_mem h (List.mem_cons_of_mem _ hx)⟩
theorem bytesB_append {a b : List Int} (ha : bytesB a = true) (hb : bytesB b = true) : bytesB (a ++ b) = true :=
  bytesB_of fun x hx => (List.mem_append.1 hx).elim (fun h => bytesB_mem ha h) (fun h => bytesB_mem hb h)

theorem all_tt : ∀ l : List Int, bytesB l = true → (HSum.all l).sum = tt l
  | [], _ => rfl
  | [a], h => by
    unfold HSum.all pre
    simp only [List.length_cons, List.length_nil]
    rw [show (0 + 1 + 1) / 2 = 1 from rfl, List.range_one, List.map_cons, List.map_nil, List.sum_cons, List.sum_nil, pr_pair h]
    unfold pair tt rd
    simp
  | a :: b :: t, h => by
    have h2 := (bytesB_cons (bytesB_cons h).2).2
    have ih := all_tt t h2
    unfold HSum.all pre at ih ⊢
    simp only [List.length_cons]
    rw [show (t.length + 1 + 1 + 1) / 2 = (t.length + 1) / 2 + 1 by omega, List.range_succ_eq_map, List.map_cons, List.sum_cons, List.map_map]
    have e : (List.map ((fun k => pr (a :: b :: t) (2 * k)) ∘ Nat.succ) (List.range ((t.length + 1) / 2))) = List.map (fun k => pr t (2 * k)) (List.range ((t.length + 1) / 2)) := by
      refine List.map_congr_left fun k _ => ?_
      show pr (a :: b :: t) (2 * (k + 1)) = pr t (2 * k)
      rw [pr_pair h, pr_pair h2, show 2 * (k + 1) = 2 * k + 2 by omega, pair_two]
    rw [e, ih, pr_pair h]
    have e0 : pair (a :: b :: t) (2 * 0) = a * 256 + b := by
      unfold pair rd
      simp
    rw [e0]
    rfl

theorem sumW_tt {l : List Int} (h : bytesB l = true) : sumW l = norm (tt l) := by rw [sumW_norm h, all_tt l h]
theorem tt_nonneg {l : List Int} (h : bytesB l = true) : 0 ≤ tt l := by rw [← all_tt l h]; exact all_nonneg h

theorem tt_append : ∀ a b : List Int, a.length % 2 = 0 → tt (a ++ b) = tt a + tt b
  | [], b, _ => by simp [tt]
  | [_], _, h => by simp at h
  | x :: y :: t, b, h => by
    have := tt_append t b (by simp only [List.length_cons] at h; omega)
    show x * 256 + y + tt (t ++ b) = x * 256 + y + tt t + tt b
    rw [this]
    omega

def twoS (n : Int) : List Int := [n % 65536 / 256, n % 256]
theorem twoS_bytes (n : Int) : bytesB (twoS n) = true := bytesB_of fun x hx => by
  unfold twoS at hx
  simp only [List.mem_cons, List.not_mem_nil, or_false] at hx
  omega
end Go.Proofs.Ytdphjljbdodonaa.PIpB
namespace Go.Proofs.Ytdphjljbdodonaa.PIpB
open Go.RowKit Go.Proofs.YtdphjljbdodonaaW.PrintWords Go.Proofs.YtdphjljbdodonaaW.PrintLast Go.Proofs.YtdphjljbdodonaaW.PrintMore Go.Proofs.Ytdphjljbdodonaa.Ar Go.Proofs.Ytdphjljbdodonaa.HSum
set_option linter.unusedVariables false
set_option linter.unusedSimpArgs false

theorem put_step (k : Nat) (x m n i sh i1 : Int) (l : List Int) (hi : i < n) (hsh : wrap64 (8 * wrap64 (wrap64 (m - 1) - i)) = sh) (hs : 0 ≤ sh) (hl : l.length < 140737488355328) (h1 : wrap64 (i + 1) = i1) :
    octet_put.l0 (k + 1) x m l n i = octet_put.l0 k x m (l ++ [(shr .u64 x sh) % 256]) n i1 := by
  simp only [octet_put.l0]
  rw [if_pos hi, hsh, if_pos hs, if_pos hl, h1]
theorem put_end (k : Nat) (x m n i : Int) (l : List Int) (hi : ¬ i < n) : octet_put.l0 (k + 1) x m l n i = some l := by
  simp only [octet_put.l0]
  rw [if_neg hi]
theorem shr0 (x : Int) : shr .u64 x 0 = x := by
  unfold shr
  rw [show (2 : Int) ^ min (Int.toNat 0) IntKind.u64.bits = 1 by decide +kernel]
  omega
theorem shr8 (x : Int) : shr .u64 x 8 = x / 256 := by
  unfold shr
  rw [show (2 : Int) ^ min (Int.toNat 8) IntKind.u64.bits = 256 by decide +kernel]
theorem shr16 (x : Int) : shr .u64 x 16 = x / 65536 := by
  unfold shr
  rw [show (2 : Int) ^ min (Int.toNat 16) IntKind.u64.bits = 65536 by decide +kernel]
theorem shr24 (x : Int) : shr .u64 x 24 = x / 16777216 := by
  unfold shr
  rw [show (2 : Int) ^ min (Int.toNat 24) IntKind.u64.bits = 16777216 by decide +kernel]

def fourS (n : Int) : List Int := [n / 16777216 % 256, n / 65536 % 256, n / 256 % 256, n % 256]
theorem clone_f (l : List Int) (hl : l.length < 140737488355328) : slices_Clone_byte_byte.f l = some l := by
  unfold slices_Clone_byte_byte.f
  rw [if_pos hl]

theorem put2_f (k : Nat) (l : List Int) (x : Int) (hl : l.length + 2 ≤ 140737488355328) : octet_put.f (k + 3) l x 2 = some (l ++ [x / 256 % 256, x % 256]) := by
  unfold octet_put.f
  rw [clone_f l (by omega)]
  simp only [Option.bind_some]
  rw [put_step (k + 2) x 2 2 0 8 1 l (by decide) (by decide +kernel) (by decide) (by omega) (by decide +kernel),
    put_step (k + 1) x 2 2 1 0 2 _ (by decide) (by decide +kernel) (by decide) (by simp; omega) (by decide +kernel), put_end k x 2 2 2 _ (by decide), shr8, shr0]
  simp
theorem put4_f (k : Nat) (l : List Int) (x : Int) (hl : l.length + 4 ≤ 140737488355328) : octet_put.f (k + 5) l x 4 = some (l ++ fourS x) := by
  unfold octet_put.f fourS
  rw [clone_f l (by omega)]
  simp only [Option.bind_some]
  rw [put_step (k + 4) x 4 4 0 24 1 l (by decide) (by decide +kernel) (by decide) (by omega) (by decide +kernel),
    put_step (k + 3) x 4 4 1 16 2 _ (by decide) (by decide +kernel) (by decide) (by simp; omega) (by decide +kernel),
    put_step (k + 2) x 4 4 2 8 3 _ (by decide) (by decide +kernel) (by decide) (by simp; omega) (by decide +kernel),
    put_step (k + 1) x 4 4 3 0 4 _ (by decide) (by decide +kernel) (by decide) (by simp; omega) (by decide +kernel), put_end k x 4 4 4 _ (by decide), shr24, shr16, shr8, shr0]
  simp

theorem put16_f (k : Nat) (l : List Int) (n : Int) (hl : l.length + 2 ≤ 140737488355328) : octet_Put16.f (k + 3) l n = some (l ++ twoS n) := by
  unfold octet_Put16.f
  rw [u16w, u64w, show n % 65536 % 18446744073709551616 = n % 65536 by omega, put2_f k l _ hl]
  simp only [Option.bind_some]
  unfold twoS
  rw [show n % 65536 / 256 % 256 = n % 65536 / 256 by omega, show n % 65536 % 256 = n % 256 by omega]
theorem put32_f (k : Nat) (l : List Int) (n : Int) (n0 : 0 ≤ n) (n1 : n ≤ 4294967295) (hl : l.length + 4 ≤ 140737488355328) : octet_Put32.f (k + 5) l n = some (l ++ fourS n) := by
  unfold octet_Put32.f
  rw [u64w, show n % 18446744073709551616 = n by omega, put4_f k l n hl]
  rfl
theorem fourS_bytes (n : Int) : bytesB (fourS n) = true := bytesB_of fun x hx => by
  unfold fourS at hx
  simp only [List.mem_cons, List.not_mem_nil, or_false] at hx
  omega
end Go.Proofs.Ytdphjljbdodonaa.PIpB
namespace Go.Proofs.Ytdphjljbdodonaa.PIpB
open Go.RowKit Go.Proofs.YtdphjljbdodonaaW.PrintWords Go.Proofs.YtdphjljbdodonaaW.PrintLast Go.Proofs.YtdphjljbdodonaaW.PrintMore Go.Proofs.Ytdphjljbdodonaa.Ar Go.Proofs.Ytdphjljbdodonaa.HSum
set_option linter.unusedVariables false
set_option linter.unusedSimpArgs false

def Bytes (l : List Int) : Prop := ∀ x ∈ l, 0 ≤ x ∧ x ≤ 255
theorem Bytes.at_ {l : List Int} (h : Bytes l) (i : Int) : 0 ≤ rd l i ∧ rd l i ≤ 255 := by
  unfold rd
  rw [List.getD_eq_getElem?_getD]
  rcases Nat.lt_or_ge i.toNat l.length with hi | hi
  · rw [List.getElem?_eq_getElem hi]
    exact h _ (List.getElem_mem hi)
  · rw [List.getElem?_eq_none hi]
    simp

/-- The bytes from a place on, or the error's number. -/
def viewS (l : List Int) (at_ n : Int) : List Int × Int :=
  if at_ < 0 ∨ at_ > l.length then ([], 8) else if n < 0 then ([], 1) else if n > l.length - at_ then ([], 2) else ((l.take (at_ + n).toNat).drop at_.toNat, 0)

theorem view_f (k : Nat) (l : List Int) (i n : Int) (hl : l.length ≤ 140737488351232) (i0 : -9223372036854775808 ≤ i) (i1 : i ≤ 9223372036854775807) (n0 : -9223372036854775808 ≤ n) (n1 : n ≤ 9223372036854775807) :
    octet_view.f (k + 1) l i n = some (viewS l i n) := by
  have hj : ∀ b : Bool, (b = true ↔ (i < 0 ∨ i > l.length)) → octet_view.j0 (k + 1) l i n b = some (viewS l i n) := by
    intro b hb
    simp only [octet_view.j0]
    unfold viewS
    by_cases h : i < 0 ∨ i > l.length
    · rw [if_pos (hb.2 h), if_pos h]
    · rw [if_neg (fun hh => h (hb.1 hh)), if_neg h, w64 (n := (l.length : Int) - i) (by omega) (by omega)]
      by_cases h1 : n < 0
      · rw [if_pos h1, if_pos h1]
      · rw [if_neg h1, if_neg h1]
        by_cases h2 : n > l.length - i
        · rw [if_pos h2, if_pos h2]
        · rw [if_neg h2, if_neg h2, w64 (n := i + n) (by omega) (by omega), if_pos (by omega), if_pos (by omega), if_pos (by omega)]
  unfold octet_view.f
  split
  · rename_i h
    exact hj true ⟨fun _ => .inl h, fun _ => rfl⟩
  · rename_i h
    exact hj _ ⟨fun hh => .inr (of_decide_eq_true hh), fun hh => decide_eq_true (hh.resolve_left h)⟩

theorem viewS_bytes {l : List Int} (h : Bytes l) (i n : Int) : Bytes (viewS l i n).1 := by
  unfold viewS
  repeat' split
  all_goals first | (intro x hx; cases hx) | (intro x hx; exact h x (List.mem_of_mem_take (List.mem_of_mem_drop hx)))

/-! ### numbers read -/
theorem or8 (x b : Int) (x0 : 0 ≤ x) (x1 : x ≤ 16777215) (b0 : 0 ≤ b) (b1 : b ≤ 255) : Go.bits .or .u64 (IntKind.u64.wrap (x * 256)) (IntKind.u64.wrap b) = x * 256 + b := by
  rw [u64w, u64w, show (x * 256) % 18446744073709551616 = x * 256 by omega, show b % 18446744073709551616 = b by omega]
  exact bits_join .u64 64 (by decide) (fun n h0 h1 => by rw [u64w]; omega) 8 (x * 256) b (by omega) (by omega) (by omega) b0 (by omega) (by omega)

/-- 256 n + b, byte by byte. -/
def numF (n : Int) (l : List Int) : Int := l.foldl (fun n b => 256 * n + b) n
def getS (l : List Int) (i n : Int) : Int × Int := (numF 0 (viewS l i n).1, (viewS l i n).2)

theorem numF_bd (l : List Int) (h : Bytes l) : ∀ n : Int, 0 ≤ n → 0 ≤ numF n l ∧ numF n l < (n + 1) * 256 ^ l.length := by
  induction l with
  | nil => intro n h0; simp [numF]; omega
  | cons b l ih =>
    intro n h0
    have hb := h b List.mem_cons_self
    obtain ⟨h1, h2⟩ := ih (fun x hx => h x (List.mem_cons_of_mem _ hx)) (256 * n + b) (by omega)
    refine ⟨h1, Int.lt_of_lt_of_le h2 ?_⟩
    have hp : (0 : Int) ≤ 256 ^ l.length := Int.pow_nonneg (by decide)
    have : (256 * n + b + 1) * 256 ^ l.length ≤ ((n + 1) * 256) * 256 ^ l.length := Int.mul_le_mul_of_nonneg_right (by omega) hp
    rw [List.length_cons, Int.pow_succ, Int.mul_comm (256 ^ l.length) 256, ← Int.mul_assoc]
    exact this

theorem drop_cons (l : List Int) (i : Nat) (h : i < l.length) : l.drop i = rd l i :: l.drop (i + 1) := by
  rw [List.drop_eq_getElem_cons h]
  congr 1
  unfold rd
  rw [Int.toNat_natCast, List.getD_eq_getElem?_getD, List.getElem?_eq_getElem h]
  rfl

theorem get_loop (e : Int) (v : List Int) (hv : Bytes v) (hl : v.length ≤ 4) : ∀ (d i k : Nat) (acc : Int), i + d = v.length → d < k → 0 ≤ acc → acc < 256 ^ i → octet_get.l0 k e acc v v.length i = some (numF acc (v.drop i), e) := by
  intro d
  induction d with
  | zero =>
    intro i k acc hi hk _ _
    obtain ⟨k, rfl⟩ : ∃ m, k = m + 1 := ⟨k - 1, by omega⟩
    simp only [octet_get.l0]
    rw [if_neg (by omega), List.drop_of_length_le (by omega)]
    rfl
  | succ d ih =>
    intro i k acc hi hk h0 h1
    obtain ⟨k, rfl⟩ : ∃ m, k = m + 1 := ⟨k - 1, by omega⟩
    have hr := hv.at_ (i : Int)
    have hp : (256 : Int) ^ i ≤ 16777216 := by
      have : i ≤ 3 := by omega
      rcases (by omega : i = 0 ∨ i = 1 ∨ i = 2 ∨ i = 3) with rfl | rfl | rfl | rfl <;> decide
    simp only [octet_get.l0]
    rw [if_pos (by omega), if_pos (by omega), if_pos (by omega), or8 _ _ h0 (by omega) hr.1 hr.2, w64 (by omega) (by omega)]
    have := ih (i + 1) k (acc * 256 + rd v i) (by omega) (by omega) (by omega) (by rw [Int.pow_succ]; omega)
    rw [show ((i : Int) + 1) = ((i + 1 : Nat) : Int) from rfl, this, drop_cons v i (by omega)]
    simp only [numF, List.foldl_cons]
    rw [Int.mul_comm]

theorem viewS_four (l : List Int) (i n : Int) (h : n ≤ 4) : (viewS l i n).1.length ≤ 4 := by
  unfold viewS
  repeat' split
  all_goals simp
  all_goals omega

theorem get_f (k : Nat) (l : List Int) (i n : Int) (hB : Bytes l) (hl : l.length ≤ 140737488351232) (i0 : -9223372036854775808 ≤ i) (i1 : i ≤ 9223372036854775807) (n0 : 0 ≤ n) (n1 : n ≤ 4) :
    octet_get.f (k + 5) l i n = some (getS l i n) := by
  unfold octet_get.f
  rw [view_f (k + 4) l i n hl i0 i1 (by omega) (by omega)]
  simp only [Option.bind_some]
  have h4 := viewS_four l i n n1
  have := get_loop (viewS l i n).2 (viewS l i n).1 (viewS_bytes hB i n) h4 (viewS l i n).1.length 0 (k + 5) 0 (by omega) (by omega) (by omega) (by simp)
  rw [List.drop_zero] at this
  exact this

theorem getS_bd (l : List Int) (hB : Bytes l) (i n : Int) : 0 ≤ (getS l i n).1 ∧ (getS l i n).1 < 256 ^ (viewS l i n).1.length := by
  have := numF_bd _ (viewS_bytes hB i n) 0 (by omega)
  rw [Int.zero_add, Int.one_mul] at this
  exact this
theorem viewS_len_n (l : List Int) (i n : Int) (h : 0 ≤ n) : (viewS l i n).1.length ≤ n.toNat := by
  unfold viewS
  repeat' split
  all_goals simp
  all_goals omega
theorem pow_le256 {a b : Nat} (h : a ≤ b) : (256 : Int) ^ a ≤ 256 ^ b := by
  have e : ∀ c : Nat, ((256 ^ c : Nat) : Int) = (256 : Int) ^ c := fun c => Int.natCast_pow 256 c
  rw [← e, ← e]
  exact Int.ofNat_le.2 (Nat.pow_le_pow_right (by decide) h)

theorem get16_f (k : Nat) (l : List Int) (i : Int) (hB : Bytes l) (hl : l.length ≤ 140737488351232) (i0 : -9223372036854775808 ≤ i) (i1 : i ≤ 9223372036854775807) :
    octet_Get16.f (k + 5) l i = some (getS l i 2) := by
  unfold octet_Get16.f
  rw [get_f k l i 2 hB hl i0 i1 (by omega) (by omega)]
  simp only [Option.bind_some]
  have := getS_bd l hB i 2
  have h2 := pow_le256 (viewS_len_n l i 2 (by omega))
  rw [w64 (by omega) (by have : (256 : Int) ^ (2 : Int).toNat = 65536 := by decide
                         omega)]
theorem get32_f (k : Nat) (l : List Int) (i : Int) (hB : Bytes l) (hl : l.length ≤ 140737488351232) (i0 : -9223372036854775808 ≤ i) (i1 : i ≤ 9223372036854775807) :
    octet_Get32.f (k + 5) l i = some (getS l i 4) := by
  unfold octet_Get32.f
  rw [get_f k l i 4 hB hl i0 i1 (by omega) (by omega)]
  simp only [Option.bind_some]
  have := getS_bd l hB i 4
  have h2 := pow_le256 (viewS_len_n l i 4 (by omega))
  have h3 : (256 : Int) ^ (4 : Int).toNat = 4294967296 := by decide
  rw [show (getS l i 4).1 % 4294967296 = (getS l i 4).1 by omega]

/-! ### the reference's number -/
theorem rd_view (l : List Int) (i n j : Nat) (h : i + n ≤ l.length) (hj : j < n) : rd ((l.take (i + n)).drop i) j = rd l ((i + j : Nat) : Int) := by
  unfold rd
  simp only [Int.toNat_natCast]
  rw [List.getD_eq_getElem?_getD, List.getD_eq_getElem?_getD, List.getElem?_drop, List.getElem?_take, if_pos (by omega)]

theorem getS_four (l : List Int) (i n : Nat) (h : i + n ≤ l.length) : getS l i n = (numF 0 ((l.take (i + n)).drop i), 0) := by
  unfold getS viewS
  rw [if_neg (by omega), if_neg (by omega), if_neg (by omega)]
  rfl
/-- Two bytes as a number. -/
def w2 (l : List Int) (i : Int) : Int := 256 * rd l i + rd l (i + 1)
theorem view_two (l : List Int) (i : Nat) (h : i + 2 ≤ l.length) : (l.take (i + 2)).drop i = [rd l i, rd l ((i + 1 : Nat) : Int)] := by
  have hv : ((l.take (i + 2)).drop i).length = 2 := by rw [List.length_drop, List.length_take]; omega
  have h0 := rd_view l i 2 0 h (by omega)
  have h1 := rd_view l i 2 1 h (by omega)
  generalize (l.take (i + 2)).drop i = v at *
  match v, hv with
  | [a, b], _ =>
    have e0 : a = rd l ((i + 0 : Nat) : Int) := h0
    have e1 : b = rd l ((i + 1 : Nat) : Int) := h1
    rw [e0, e1]
    rfl
theorem view_four (l : List Int) (i : Nat) (h : i + 4 ≤ l.length) : (l.take (i + 4)).drop i = [rd l i, rd l ((i + 1 : Nat) : Int), rd l ((i + 2 : Nat) : Int), rd l ((i + 3 : Nat) : Int)] := by
  have hv : ((l.take (i + 4)).drop i).length = 4 := by rw [List.length_drop, List.length_take]; omega
  have h0 := rd_view l i 4 0 h (by omega)
  have h1 := rd_view l i 4 1 h (by omega)
  have h2 := rd_view l i 4 2 h (by omega)
  have h3 := rd_view l i 4 3 h (by omega)
  generalize (l.take (i + 4)).drop i = v at *
  match v, hv with
  | [a, b, c, d], _ =>
    have e0 : a = rd l ((i + 0 : Nat) : Int) := h0
    have e1 : b = rd l ((i + 1 : Nat) : Int) := h1
    have e2 : c = rd l ((i + 2 : Nat) : Int) := h2
    have e3 : d = rd l ((i + 3 : Nat) : Int) := h3
    rw [e0, e1, e2, e3]
    rfl
theorem getS2 (l : List Int) (i : Nat) (h : i + 2 ≤ l.length) : getS l i 2 = (w2 l i, 0) := by
  rw [show (2 : Int) = ((2 : Nat) : Int) from rfl, getS_four l i 2 h, view_two l i h]
  unfold numF w2
  simp only [List.foldl_cons, List.foldl_nil]
  rw [show ((i : Int) + 1) = ((i + 1 : Nat) : Int) by omega, show 256 * (256 * 0 + rd l i) = 256 * rd l i by omega]
theorem getS4 (l : List Int) (i : Nat) (h : i + 4 ≤ l.length) : getS l i 4 = (65536 * w2 l i + w2 l ((i + 2 : Nat) : Int), 0) := by
  rw [show (4 : Int) = ((4 : Nat) : Int) from rfl, getS_four l i 4 h, view_four l i h]
  unfold numF w2
  simp only [List.foldl_cons, List.foldl_nil]
  rw [show ((i : Int) + 1) = ((i + 1 : Nat) : Int) by omega, show (((i + 2 : Nat) : Int) + 1) = ((i + 3 : Nat) : Int) by omega]
  congr 1
  omega
theorem w2_bd (l : List Int) (hB : Bytes l) (i : Int) : 0 ≤ w2 l i ∧ w2 l i ≤ 65535 := by
  have := hB.at_ i
  have := hB.at_ (i + 1)
  unfold w2
  omega
end Go.Proofs.Ytdphjljbdodonaa.PIpB
namespace Go.Proofs.Ytdphjljbdodonaa.PIpB
open Go.RowKit Go.Proofs.Ytdphjljbdodonaa.PIpB Go.Proofs.YtdphjljbdodonaaW.PrintWords Go.Proofs.YtdphjljbdodonaaW.PrintLast Go.Proofs.YtdphjljbdodonaaW.PrintMore Go.Proofs.Ytdphjljbdodonaa.Ar Go.Proofs.Ytdphjljbdodonaa.HSum Go.Proofs.Ytdphjljbdodonaa.HExt
set_option linter.unusedVariables false
set_option linter.unusedSimpArgs false

theorem ip_live : ∀ k, towropelaw06_live.f (k + 10) = some true := by
  intro k
  induction k with
  | zero => decide +kernel
  | succ k ih => exact towropelaw06_live.mono (k + 10) true ih
theorem ipcode_f (x : Int) : towropelaw06_code.f x = some x := rfl
end Go.Proofs.Ytdphjljbdodonaa.PIpB
namespace Go.Proofs.Ytdphjljbdodonaa.PIpB
open Go.RowKit Go.Proofs.YtdphjljbdodonaaW.PrintWords Go.Proofs.YtdphjljbdodonaaW.PrintLast Go.Proofs.YtdphjljbdodonaaW.PrintMore Go.Proofs.Ytdphjljbdodonaa.Ar Go.Proofs.Ytdphjljbdodonaa.HSum
set_option linter.unusedVariables false
set_option linter.unusedSimpArgs false

theorem check_f (l : List Int) (hl : l.length ≤ 140737488355320) (h : bytesB l = true) : sum_Check.f l = some (65535 - sumW l) := by
  have := sumW_top h
  unfold sum_Check.f sum_Sum.f
  rw [if_pos ⟨h, by omega⟩]
  simp only [Option.bind_some]
  rw [w64 (by omega) (by omega)]
theorem right_f (l : List Int) (hl : l.length ≤ 140737488355320) (h : bytesB l = true) : sum_Right.f l = some (sumW l == 65535) := by
  unfold sum_Right.f sum_Sum.f
  rw [if_pos ⟨h, by omega⟩]
  rfl
end Go.Proofs.Ytdphjljbdodonaa.PIpB
namespace Go.Proofs.Ytdphjljbdodonaa.PIpB
open Go.RowKit Go.Proofs.Ytdphjljbdodonaa.PIpB Go.Proofs.YtdphjljbdodonaaW.PrintWords Go.Proofs.YtdphjljbdodonaaW.PrintLast Go.Proofs.YtdphjljbdodonaaW.PrintMore Go.Proofs.Ytdphjljbdodonaa.Ar Go.Proofs.Ytdphjljbdodonaa.HSum Go.Proofs.Ytdphjljbdodonaa.HExt
set_option linter.unusedVariables false
set_option linter.unusedSimpArgs false

theorem i64_pow (i : Nat) (x : Int) (x0 : 0 ≤ x ∧ x ≤ 65535) (hi : i ≤ 15) : Go.bits .and .i64 x ((2 ^ i : Nat) : Int) = (x / ((2 ^ i : Nat) : Int) % 2) * ((2 ^ i : Nat) : Int) := by
  obtain ⟨a, rfl⟩ : ∃ a : Nat, x = a := ⟨x.toNat, by omega⟩
  have ha : a < 2 ^ 16 := by omega
  have hp : 2 ^ i < 2 ^ 16 := Nat.pow_lt_pow_right (by decide) (by omega)
  have := (bits_nat .i64 16 (by decide) (fun n h0 h1 => by rw [IntKind.wrap_i64]; omega) a (2 ^ i) ha hp).1
  have hand : a &&& 2 ^ i = (a / 2 ^ i % 2) * 2 ^ i := by
    apply Nat.eq_of_testBit_eq
    intro j
    rw [Nat.testBit_and, Nat.testBit_two_pow]
    have hm : a / 2 ^ i % 2 = 0 ∨ a / 2 ^ i % 2 = 1 := by omega
    have hb : Nat.testBit a i = decide (a / 2 ^ i % 2 = 1) := Nat.testBit_eq_decide_div_mod_eq
    rcases hm with h | h
    · rw [h, Nat.zero_mul, Nat.zero_testBit]
      by_cases hij : i = j
      · subst hij
        rw [hb, h]
        rfl
      · rw [decide_eq_false hij, Bool.and_false]
    · rw [h, Nat.one_mul, Nat.testBit_two_pow]
      by_cases hij : i = j
      · subst hij
        rw [hb, h]
        rfl
      · rw [decide_eq_false hij, Bool.and_false]
  rw [this, hand]
  have hm : a / 2 ^ i % 2 = 0 ∨ a / 2 ^ i % 2 = 1 := by omega
  have hc : ((a : Int) / ((2 ^ i : Nat) : Int) % 2) = ((a / 2 ^ i % 2 : Nat) : Int) := by simp
  rw [hc]
  rcases hm with h | h <;> rw [h] <;> simp
theorem and_whole (x : Int) (x0 : 0 ≤ x ∧ x ≤ 65535) : Go.bits .and .i64 x 16384 = (x / 16384 % 2) * 16384 := i64_pow 14 x x0 (by decide)
theorem and_more (x : Int) (x0 : 0 ≤ x ∧ x ≤ 65535) : Go.bits .and .i64 x 8192 = (x / 8192 % 2) * 8192 := i64_pow 13 x x0 (by decide)
theorem and_spare (x : Int) (x0 : 0 ≤ x ∧ x ≤ 65535) : Go.bits .and .i64 x 32768 = (x / 32768 % 2) * 32768 := i64_pow 15 x x0 (by decide)
theorem and_off (x : Int) (x0 : 0 ≤ x ∧ x ≤ 65535) : Go.bits .and .i64 x 8191 = x % 8192 :=
  bits_mask .i64 16 (by decide) (fun n h0 h1 => by rw [IntKind.wrap_i64]; omega) 13 (by decide) x x0.1 (by omega)

abbrev IpR := Int × Int × Bool × Bool × Int × Int × Int × Int × Int × List Int × List Int × Int
def noIp (e : Int) : IpR := (0, 0, false, false, 0, 0, 0, 0, 0, [], [], e)
/-- What is got from bytes, told as the reference tells it. -/
def topS (l : List Int) : Int := 4 * (rd l 0 - 64)
def getIp (l : List Int) : IpR :=
  if (l.length : Int) < 20 then noIp 2 else if rd l 0 < 69 ∨ rd l 0 > 79 then noIp 3 else if (l.length : Int) < topS l then noIp 2 else if sumW (l.take (topS l).toNat) ≠ 65535 then noIp 4
  else if w2 l 2 < topS l ∨ rd l 6 ≥ 128 then noIp 3 else if (l.length : Int) < w2 l 2 then noIp 2
  else (rd l 1, w2 l 4, rd l 6 / 64 % 2 == 1, rd l 6 / 32 % 2 == 1, w2 l 6 % 8192, rd l 8, rd l 9, 65536 * w2 l 12 + w2 l 14, 65536 * w2 l 16 + w2 l 18, (l.take (topS l).toNat).drop 20, (l.take (w2 l 2).toNat).drop (topS l).toNat, 0)
theorem take_bytes {l : List Int} (h : bytesB l = true) (n : Nat) : bytesB (l.take n) = true := bytesB_of fun _ hx => bytesB_mem h (List.mem_of_mem_take hx)

/-- What 'size' tells: the head's length, the length, the error. -/
def sizeS (l : List Int) : Int × Int × Int :=
  if (l.length : Int) < 20 then (0, 0, 2) else if rd l 0 < 69 ∨ rd l 0 > 79 then (0, 0, 3) else if (l.length : Int) < topS l then (0, 0, 2) else if sumW (l.take (topS l).toNat) ≠ 65535 then (0, 0, 4)
  else if w2 l 2 < topS l ∨ rd l 6 ≥ 128 then (0, 0, 3) else if (l.length : Int) < w2 l 2 then (0, 0, 2) else (topS l, w2 l 2, 0)
theorem size_f (k : Nat) (l : List Int) (h : bytesB l = true) (hl : l.length ≤ 70000) : ip_size.f (k + 7) l = some (sizeS l) := by
  have hB : Bytes l := fun x hx => bytesB_mem h hx
  have r0 := hB.at_ 0
  have hj : ∀ b : Bool, (b = true ↔ rd l 0 < 69 ∨ rd l 0 > 79) → ¬ (l.length : Int) < 20 → ip_size.j0 (k + 7) l b = some (sizeS l) := by
    intro b hb h20
    simp only [ip_size.j0]
    unfold sizeS
    rw [if_neg h20]
    by_cases hf : rd l 0 < 69 ∨ rd l 0 > 79
    · rw [if_pos (hb.2 hf), if_pos hf]
    · rw [if_neg (fun x => hf (hb.1 x)), if_neg hf, if_pos (by omega), show Go.bits .and .u8 (rd l 0) 15 = rd l 0 % 16 from u8_and15 _ (by omega) (by omega), w64 (n := rd l 0 % 16) (by omega) (by omega), w64 (n := 4 * (rd l 0 % 16)) (by omega) (by omega)]
      have ht : 4 * (rd l 0 % 16) = topS l := by unfold topS; omega
      rw [ht]
      have t0 : 20 ≤ topS l ∧ topS l ≤ 60 := by unfold topS; omega
      by_cases h2 : (l.length : Int) < topS l
      · rw [if_pos h2, if_pos h2]
      · rw [if_neg h2, if_neg h2, if_pos (by omega), if_pos (by omega), right_f _ (by rw [List.length_take]; omega) (take_bytes h _)]
        simp only [Option.bind_some]
        by_cases hs : sumW (l.take (topS l).toNat) = 65535
        · have g2 := get16_f (k + 1) l 2 hB (by omega) (by omega) (by omega)
          have g6 := get16_f (k + 1) l 6 hB (by omega) (by omega) (by omega)
          have e2 : getS l 2 2 = (w2 l 2, 0) := getS2 l 2 (by omega)
          have e6 : getS l 6 2 = (w2 l 6, 0) := getS2 l 6 (by omega)
          have b6 := w2_bd l hB 6
          rw [if_pos (by simpa using hs), if_neg (by simpa using hs), show k + 6 = k + 1 + 5 by omega, g2, g6, e2, e6]
          simp only [Option.bind_some, and_spare _ b6]
          have r6 := hB.at_ 6
          have r7 := hB.at_ 7
          have e7 : w2 l 6 = 256 * rd l 6 + rd l 7 := rfl
          by_cases ha : w2 l 2 < topS l
          · rw [if_pos ha, if_pos (.inl ha)]
            simp only [ip_size.j1, if_true]
          · rw [if_neg ha]
            by_cases h6 : rd l 6 ≥ 128
            · rw [if_pos (.inr h6), show (w2 l 6 / 32768 % 2 * 32768 != 0) = true by rw [bne_iff_ne]; omega]
              simp only [ip_size.j1, if_true]
            · rw [if_neg (by omega), show (w2 l 6 / 32768 % 2 * 32768 != 0) = false by rw [bne_eq_false_iff_eq]; omega]
              simp only [ip_size.j1]
              rw [if_neg (by simp)]
              split <;> rfl
        · rw [if_neg (by simpa using hs), if_pos (by simpa using hs)]
  unfold ip_size.f
  by_cases h20 : (l.length : Int) < 20
  · rw [if_pos h20]
    unfold sizeS
    rw [if_pos h20]
  · rw [if_neg h20, if_pos (by omega)]
    by_cases h1 : rd l 0 < 69
    · rw [if_pos h1]
      exact hj true ⟨fun _ => .inl h1, fun _ => rfl⟩ h20
    · rw [if_neg h1]
      exact hj _ ⟨fun x => .inr (of_decide_eq_true x), fun x => decide_eq_true (x.resolve_left h1)⟩ h20

theorem ipget_f (k : Nat) (l : List Int) (h : bytesB l = true) (hl : l.length ≤ 70000) : ip_Get.f (k + 7) l = some (getIp l) := by
  have hB : Bytes l := fun x hx => bytesB_mem h hx
  unfold ip_Get.f
  rw [size_f k l h hl]
  simp only [Option.bind_some]
  unfold sizeS getIp
  by_cases h20 : (l.length : Int) < 20
  · rw [if_pos h20, if_pos h20]; rfl
  rw [if_neg h20, if_neg h20]
  by_cases hf : rd l 0 < 69 ∨ rd l 0 > 79
  · rw [if_pos hf, if_pos hf]; rfl
  rw [if_neg hf, if_neg hf]
  by_cases h2 : (l.length : Int) < topS l
  · rw [if_pos h2, if_pos h2]; rfl
  rw [if_neg h2, if_neg h2]
  by_cases hs : sumW (l.take (topS l).toNat) ≠ 65535
  · rw [if_pos hs, if_pos hs]; rfl
  rw [if_neg hs, if_neg hs]
  by_cases ha : w2 l 2 < topS l ∨ rd l 6 ≥ 128
  · rw [if_pos ha, if_pos ha]; rfl
  rw [if_neg ha, if_neg ha]
  by_cases hn : (l.length : Int) < w2 l 2
  · rw [if_pos hn, if_pos hn]; rfl
  rw [if_neg hn, if_neg hn]
  simp only [if_true]
  have r0 := hB.at_ 0
  have t0 : 20 ≤ topS l ∧ topS l ≤ 60 := by unfold topS; omega
  have g4 := get16_f (k + 2) l 4 hB (by omega) (by omega) (by omega)
  have g6 := get16_f (k + 2) l 6 hB (by omega) (by omega) (by omega)
  have g12 := get32_f (k + 2) l 12 hB (by omega) (by omega) (by omega)
  have g16 := get32_f (k + 2) l 16 hB (by omega) (by omega) (by omega)
  have e4 : getS l 4 2 = (w2 l 4, 0) := getS2 l 4 (by omega)
  have e6 : getS l 6 2 = (w2 l 6, 0) := getS2 l 6 (by omega)
  have e12 : getS l 12 4 = (65536 * w2 l 12 + w2 l 14, 0) := getS4 l 12 (by omega)
  have e16 : getS l 16 4 = (65536 * w2 l 16 + w2 l 18, 0) := getS4 l 16 (by omega)
  have b4 := w2_bd l hB 4
  have b6 := w2_bd l hB 6
  have r6 := hB.at_ 6
  have r7 := hB.at_ 7
  have e7 : w2 l 6 = 256 * rd l 6 + rd l 7 := rfl
  rw [show k + 7 = k + 2 + 5 by omega, g4, g6, g12, g16, e4, e6, e12, e16]
  simp only [Option.bind_some]
  iterate 5 rw [if_pos (by omega)]
  rw [clone_f _ (by rw [List.length_drop, List.length_take]; omega)]
  simp only [Option.bind_some]
  iterate 3 rw [if_pos (by omega)]
  rw [clone_f _ (by rw [List.length_drop, List.length_take]; omega)]
  simp only [Option.bind_some]
  rw [u16w, and_whole _ b6, and_more _ b6, and_off _ b6, show w2 l 4 % 65536 = w2 l 4 by omega]
  rw [show (w2 l 6 / 16384 % 2 * 16384 != 0) = (rd l 6 / 64 % 2 == 1) by rw [Bool.eq_iff_iff, bne_iff_ne, beq_iff_eq]; omega, show (w2 l 6 / 8192 % 2 * 8192 != 0) = (rd l 6 / 32 % 2 == 1) by rw [Bool.eq_iff_iff, bne_iff_ne, beq_iff_eq]; omega]
end Go.Proofs.Ytdphjljbdodonaa.PIpB
namespace Go.Proofs.Ytdphjljbdodonaa.PIpB
open Go.RowKit Go.Proofs.Ytdphjljbdodonaa.PIpB Go.Proofs.YtdphjljbdodonaaW.PrintWords Go.Proofs.YtdphjljbdodonaaW.PrintLast Go.Proofs.YtdphjljbdodonaaW.PrintMore Go.Proofs.Ytdphjljbdodonaa.Ar Go.Proofs.Ytdphjljbdodonaa.HSum Go.Proofs.Ytdphjljbdodonaa.HExt
set_option linter.unusedVariables false
set_option linter.unusedSimpArgs false

/-- Bytes that are got as a packet. -/
def OkIp (l : List Int) : Prop := 20 ≤ l.length ∧ 69 ≤ rd l 0 ∧ rd l 0 ≤ 79 ∧ topS l ≤ (l.length : Int) ∧ sumW (l.take (topS l).toNat) = 65535 ∧ topS l ≤ w2 l 2 ∧ rd l 6 < 128 ∧ w2 l 2 ≤ (l.length : Int)
def fullIp (l : List Int) : IpR := (rd l 1, w2 l 4, rd l 6 / 64 % 2 == 1, rd l 6 / 32 % 2 == 1, w2 l 6 % 8192, rd l 8, rd l 9, 65536 * w2 l 12 + w2 l 14, 65536 * w2 l 16 + w2 l 18, (l.take (topS l).toNat).drop 20, (l.take (w2 l 2).toNat).drop (topS l).toNat, 0)
theorem getIp_cases (l : List Int) : (∃ e, e ≠ 0 ∧ getIp l = noIp e) ∨ (OkIp l ∧ getIp l = fullIp l) := by
  unfold getIp
  by_cases h1 : (l.length : Int) < 20
  · rw [if_pos h1]; exact .inl ⟨2, by decide, rfl⟩
  rw [if_neg h1]
  by_cases h2 : rd l 0 < 69 ∨ rd l 0 > 79
  · rw [if_pos h2]; exact .inl ⟨3, by decide, rfl⟩
  rw [if_neg h2]
  by_cases h3 : (l.length : Int) < topS l
  · rw [if_pos h3]; exact .inl ⟨2, by decide, rfl⟩
  rw [if_neg h3]
  by_cases h4 : sumW (l.take (topS l).toNat) ≠ 65535
  · rw [if_pos h4]; exact .inl ⟨4, by decide, rfl⟩
  rw [if_neg h4]
  by_cases h5 : w2 l 2 < topS l ∨ rd l 6 ≥ 128
  · rw [if_pos h5]; exact .inl ⟨3, by decide, rfl⟩
  rw [if_neg h5]
  by_cases h6 : (l.length : Int) < w2 l 2
  · rw [if_pos h6]; exact .inl ⟨2, by decide, rfl⟩
  rw [if_neg h6]
  exact .inr ⟨⟨by omega, by omega, by omega, by omega, by simpa using h4, by omega, by omega, by omega⟩, rfl⟩
theorem rd_take (l : List Int) (n i : Nat) (h : i < n) : rd (l.take n) (i : Int) = rd l (i : Int) := by
  unfold rd
  simp only [Int.toNat_natCast, List.getD_eq_getElem?_getD, List.getElem?_take, if_pos h]
theorem tt_first : ∀ (l : List Int), bytesB l = true → 1 ≤ l.length → rd l 0 * 256 ≤ tt l
  | [], _, h => by simp at h
  | [a], h, _ => Int.le_refl (a * 256)
  | a :: b :: t, h, _ => by
    have h1 := bytesB_mem h (x := b) (by simp)
    have h2 := tt_nonneg (l := t) (bytesB_of fun x hx => bytesB_mem h (by simp [hx]))
    show a * 256 ≤ a * 256 + b + tt t
    omega

theorem full_len {l : List Int} (h : OkIp l) : 20 + (((l.take (topS l).toNat).drop 20).length : Int) + (((l.take (w2 l 2).toNat).drop (topS l).toNat).length : Int) = w2 l 2 := by
  obtain ⟨h1, h2, h3, h4, h5, h6, h7, h8⟩ := h
  have : topS l = 4 * (rd l 0 - 64) := rfl
  simp only [List.length_drop, List.length_take]
  omega
end Go.Proofs.Ytdphjljbdodonaa.PIpB
namespace Go.Proofs.Ytdphjljbdodonaa.PIpB
open Go.RowKit Go.Proofs.Ytdphjljbdodonaa.PIpB Go.Proofs.YtdphjljbdodonaaW.PrintWords Go.Proofs.YtdphjljbdodonaaW.PrintLast Go.Proofs.YtdphjljbdodonaaW.PrintMore Go.Proofs.Ytdphjljbdodonaa.Ar Go.Proofs.Ytdphjljbdodonaa.HSum Go.Proofs.Ytdphjljbdodonaa.HExt
set_option linter.unusedVariables false
set_option linter.unusedSimpArgs false

def ckS (off : Int) (o d : List Int) : Int := if off < 0 ∨ off > 8191 ∨ (o.length : Int) > 40 ∨ (o.length : Int) % 4 ≠ 0 then 1 else if 20 + (o.length : Int) + d.length > 65535 then 9 else 0
theorem iplen_f (a0 a1 : Int) (a2 a3 : Bool) (a4 a5 a6 a7 a8 : Int) (o d : List Int) (ho : o.length ≤ 4611686018427387904) (hd : d.length ≤ 4611686018427387000) : ip_Len.f a0 a1 a2 a3 a4 a5 a6 a7 a8 o d = some (20 + (o.length : Int) + (d.length : Int)) := by
  unfold ip_Len.f
  rw [w64 (n := 20 + (o.length : Int)) (by omega) (by omega), w64 (by omega) (by omega)]
theorem ipcheck_f (k : Nat) (a0 a1 : Int) (a2 a3 : Bool) (a4 a5 a6 a7 a8 : Int) (o d : List Int) (ho : o.length ≤ 4611686018427387904) (hd : d.length ≤ 4611686018427387000) : ip_Check.f (k + 2) a0 a1 a2 a3 a4 a5 a6 a7 a8 o d = some (ckS a4 o d) := by
  have hj1 : ∀ b : Bool, (b = true ↔ (a4 < 0 ∨ a4 > 8191 ∨ (o.length : Int) > 40 ∨ (o.length : Int) % 4 ≠ 0)) → ip_Check.j1 (k + 1) b a0 a1 a2 a3 a4 a5 a6 a7 a8 o d = some (ckS a4 o d) := by
    intro b hb
    simp only [ip_Check.j1]
    unfold ckS
    rw [iplen_f _ _ _ _ _ _ _ _ _ _ _ ho hd]
    by_cases h : a4 < 0 ∨ a4 > 8191 ∨ (o.length : Int) > 40 ∨ (o.length : Int) % 4 ≠ 0
    · rw [if_pos (hb.2 h), if_pos h]
    · rw [if_neg (fun x => h (hb.1 x)), if_neg h]
      simp only [Option.bind_some]
      split <;> rfl
  have hj0 : ∀ b : Bool, (b = true ↔ (a4 < 0 ∨ a4 > 8191)) → ip_Check.j0 (k + 2) b a0 a1 a2 a3 a4 a5 a6 a7 a8 o d = some (ckS a4 o d) := by
    intro b hb
    simp only [ip_Check.j0]
    by_cases h : b = true
    · rw [if_pos h]
      exact hj1 b ⟨fun _ => by have := hb.1 h; omega, fun _ => h⟩
    · have hn : ¬ (a4 < 0 ∨ a4 > 8191) := fun x => h (hb.2 x)
      rw [if_neg h]
      by_cases h4 : (o.length : Int) > 40
      · rw [if_pos h4]
        exact hj1 _ ⟨fun _ => .inr (.inr (.inl h4)), fun _ => decide_eq_true h4⟩
      · rw [if_neg h4]
        exact hj1 _ ⟨fun x => .inr (.inr (.inr (by simpa using x))), fun x => by
          have : (o.length : Int) % 4 ≠ 0 := by omega
          simpa using this⟩
  unfold ip_Check.f
  by_cases h : a4 < 0
  · rw [if_pos h]
    exact hj0 true ⟨fun _ => .inl h, fun _ => rfl⟩
  · rw [if_neg h]
    exact hj0 _ ⟨fun x => .inr (of_decide_eq_true x), fun x => decide_eq_true (x.resolve_left h)⟩
def flS (off : Int) (wh mo : Bool) : Int := off + (if wh = true then 16384 else 0) + (if mo = true then 8192 else 0)
theorem or_flags (off : Int) (h0 : 0 ≤ off ∧ off ≤ 8191) (wh mo : Bool) : Go.bits .or .i64 (Go.bits .or .i64 off (if wh = true then 16384 else 0)) (if mo = true then 8192 else 0) = flS off wh mo := by
  obtain ⟨a, rfl⟩ : ∃ a : Nat, off = a := ⟨off.toNat, by omega⟩
  have ha : a < 2 ^ 13 := by omega
  have hw := fun (n : Int) (h0 : 0 ≤ n) (h1 : n < 2 ^ 16) => (show IntKind.i64.wrap n = n by rw [IntKind.wrap_i64]; omega)
  have orn : ∀ x y : Nat, x < 2 ^ 16 → y < 2 ^ 16 → Go.bits .or .i64 (x : Int) (y : Int) = ((x ||| y : Nat) : Int) := fun x y hx hy => (bits_nat .i64 16 (by decide) hw x y hx hy).2
  have key : ∀ c : Nat, c ≤ 3 → a ||| (c * 8192) = a + c * 8192 := by
    intro c hc
    have h1 := orn (c * 8192) a (by omega) (by omega)
    have h2 := bits_join .i64 16 (by decide) hw 13 ((c * 8192 : Nat) : Int) (a : Int) (by omega) (by omega) (by omega) (by omega) (by omega) (by omega)
    rw [h1] at h2
    rw [Nat.or_comm]
    omega
  have k0 := key 0 (by omega)
  have k1 := key 1 (by omega)
  have k2 := key 2 (by omega)
  have k3 := key 3 (by omega)
  unfold flS
  cases wh <;> cases mo <;> simp only [if_true, if_false, Bool.false_eq_true]
  · rw [show (0 : Int) = ((0 : Nat) : Int) from rfl, orn a 0 (by omega) (by omega), Nat.or_zero, orn a 0 (by omega) (by omega), Nat.or_zero]
    omega
  · rw [show (0 : Int) = ((0 : Nat) : Int) from rfl, show (8192 : Int) = ((8192 : Nat) : Int) from rfl, orn a 0 (by omega) (by omega), Nat.or_zero, orn a 8192 (by omega) (by omega), show a ||| 8192 = a + 8192 from k1]
    omega
  · rw [show (0 : Int) = ((0 : Nat) : Int) from rfl, show (16384 : Int) = ((16384 : Nat) : Int) from rfl, orn a 16384 (by omega) (by omega), show a ||| 16384 = a + 16384 from k2, orn (a + 16384) 0 (by omega) (by omega), Nat.or_zero]
    omega
  · rw [show (8192 : Int) = ((8192 : Nat) : Int) from rfl, show (16384 : Int) = ((16384 : Nat) : Int) from rfl, orn a 16384 (by omega) (by omega), show a ||| 16384 = a + 16384 from k2, orn (a + 16384) 8192 (by omega) (by omega), ← show a ||| 16384 = a + 16384 from k2, Nat.or_assoc, show 16384 ||| 8192 = 3 * 8192 by decide, k3]
    omega

def preS (a0 a1 : Int) (a2 a3 : Bool) (a4 a5 a6 : Int) (o d : List Int) : List Int := [69 + (o.length : Int) / 4, a0] ++ (twoS (20 + o.length + d.length) ++ (twoS a1 ++ (twoS (flS a4 a2 a3) ++ [a5, a6])))
def postS (a7 a8 : Int) (o : List Int) : List Int := fourS a7 ++ (fourS a8 ++ o)
def sumIp (a0 a1 : Int) (a2 a3 : Bool) (a4 a5 a6 a7 a8 : Int) (o d : List Int) : Int := 65535 - sumW (preS a0 a1 a2 a3 a4 a5 a6 o d ++ ([0, 0] ++ postS a7 a8 o))
def headIp (a0 a1 : Int) (a2 a3 : Bool) (a4 a5 a6 a7 a8 : Int) (o d : List Int) : List Int := preS a0 a1 a2 a3 a4 a5 a6 o d ++ (twoS (sumIp a0 a1 a2 a3 a4 a5 a6 a7 a8 o d) ++ postS a7 a8 o)
theorem pre_bytes (a0 a1 : Int) (a2 a3 : Bool) (a4 a5 a6 : Int) (o d : List Int) (h0 : 0 ≤ a0 ∧ a0 ≤ 255) (h5 : 0 ≤ a5 ∧ a5 ≤ 255) (h6 : 0 ≤ a6 ∧ a6 ≤ 255) (ho : o.length ≤ 40) : bytesB (preS a0 a1 a2 a3 a4 a5 a6 o d) = true :=
  bytesB_append (bytesB_of fun x hx => by simp only [List.mem_cons, List.not_mem_nil, or_false] at hx; omega)
    (bytesB_append (twoS_bytes _) (bytesB_append (twoS_bytes _) (bytesB_append (twoS_bytes _) (bytesB_of fun x hx => by simp only [List.mem_cons, List.not_mem_nil, or_false] at hx; omega))))
theorem post_bytes (a7 a8 : Int) (o : List Int) (h : bytesB o = true) : bytesB (postS a7 a8 o) = true := bytesB_append (fourS_bytes _) (bytesB_append (fourS_bytes _) h)
theorem pre_len (a0 a1 : Int) (a2 a3 : Bool) (a4 a5 a6 : Int) (o d : List Int) : (preS a0 a1 a2 a3 a4 a5 a6 o d).length = 10 := rfl
theorem post_len (a7 a8 : Int) (o : List Int) : (postS a7 a8 o).length = o.length + 8 := by
  unfold postS fourS
  simp only [List.length_append, List.length_cons, List.length_nil]
  omega
theorem head_len (a0 a1 : Int) (a2 a3 : Bool) (a4 a5 a6 a7 a8 : Int) (o d : List Int) : (headIp a0 a1 a2 a3 a4 a5 a6 a7 a8 o d).length = o.length + 20 := by
  unfold headIp
  rw [List.length_append, pre_len, List.length_append, post_len]
  simp only [twoS, List.length_cons, List.length_nil]
  omega
theorem flag_f (b : Bool) (n : Int) : ip_flag.f b n = some (if b = true then n else 0) := by cases b <;> rfl
theorem ipput_f (k : Nat) (a0 a1 : Int) (a2 a3 : Bool) (a4 a5 a6 a7 a8 : Int) (o d : List Int) (h0 : 0 ≤ a0 ∧ a0 ≤ 255) (h1 : 0 ≤ a1 ∧ a1 ≤ 65535) (h5 : 0 ≤ a5 ∧ a5 ≤ 255) (h6 : 0 ≤ a6 ∧ a6 ≤ 255) (h7 : 0 ≤ a7 ∧ a7 ≤ 4294967295) (h8 : 0 ≤ a8 ∧ a8 ≤ 4294967295) (hob : bytesB o = true) (hc : ckS a4 o d = 0) :
    ip_Put.f (k + 5) a0 a1 a2 a3 a4 a5 a6 a7 a8 o d = some (headIp a0 a1 a2 a3 a4 a5 a6 a7 a8 o d ++ d, 0) := by
  have hcc := hc
  unfold ckS at hcc
  split at hcc
  · simp at hcc
  rename_i hbad
  split at hcc
  · simp at hcc
  rename_i hlong
  have ho : o.length ≤ 40 := by omega
  have hd : d.length ≤ 65535 := by omega
  have h4 : 0 ≤ a4 ∧ a4 ≤ 8191 := by omega
  have hpb := pre_bytes a0 a1 a2 a3 a4 a5 a6 o d h0 h5 h6 ho
  have hqb := post_bytes a7 a8 o hob
  have h00 : bytesB [0, 0] = true := by rfl
  have hall : bytesB (preS a0 a1 a2 a3 a4 a5 a6 o d ++ ([0, 0] ++ postS a7 a8 o)) = true := bytesB_append hpb (bytesB_append h00 hqb)
  unfold ip_Put.f
  rw [show k + 5 = k + 3 + 2 by omega, ipcheck_f (k + 3) _ _ _ _ _ _ _ _ _ _ _ (by omega) (by omega), hc]
  simp only [Option.bind_some, if_true]
  rw [iplen_f _ _ _ _ _ _ _ _ _ _ _ (by omega) (by omega), show k + 3 + 2 = k + 2 + 3 by omega]
  simp only [Option.bind_some]
  rw [put16_f (k + 2) _ _ (by simp only [List.length_cons, List.length_nil]; omega)]
  simp only [Option.bind_some]
  rw [put16_f (k + 2) _ _ (by simp only [twoS, List.length_append, List.length_cons, List.length_nil]; omega), w64 (n := a1) (by omega) (by omega)]
  simp only [Option.bind_some]
  rw [flag_f, Option.bind_some, flag_f, Option.bind_some]
  rw [or_flags a4 h4 a2 a3, put16_f (k + 2) _ _ (by simp only [twoS, List.length_append, List.length_cons, List.length_nil]; omega)]
  rw [Option.bind_some]
  rw [if_pos (by simp only [twoS, List.length_append, List.length_cons, List.length_nil]; omega), show k + 2 + 3 = k + 5 by omega, put32_f k _ a7 h7.1 h7.2 (by simp only [twoS, List.length_append, List.length_cons, List.length_nil]; omega)]
  rw [Option.bind_some]
  rw [put32_f k _ a8 h8.1 h8.2 (by simp only [twoS, fourS, List.length_append, List.length_cons, List.length_nil]; omega)]
  rw [Option.bind_some]
  rw [w64 (n := (o.length : Int) / 4) (by omega) (by omega), w64 (n := 69 + (o.length : Int) / 4) (by omega) (by omega), show (69 + (o.length : Int) / 4) % 256 = 69 + (o.length : Int) / 4 by omega]
  have e : ([69 + (o.length : Int) / 4, a0] ++ twoS (20 + ↑o.length + ↑d.length) ++ twoS a1 ++ twoS (flS a4 a2 a3) ++ [a5, a6, 0, 0] ++ fourS a7 ++ fourS a8) ++ o = preS a0 a1 a2 a3 a4 a5 a6 o d ++ ([0, 0] ++ postS a7 a8 o) := by
    unfold preS postS
    simp only [List.append_assoc, List.cons_append, List.nil_append]
  have el : ([69 + (o.length : Int) / 4, a0] ++ twoS (20 + ↑o.length + ↑d.length) ++ twoS a1 ++ twoS (flS a4 a2 a3) ++ [a5, a6, 0, 0] ++ fourS a7 ++ fourS a8).length = 20 := rfl
  rw [if_pos (by rw [el]; omega), e, check_f _ (by rw [List.length_append, pre_len, List.length_append, post_len]; simp only [List.length_cons, List.length_nil]; omega) hall]
  rw [Option.bind_some]
  rw [show k + 5 = k + 2 + 3 by omega, put16_f (k + 2) [] _ (by simp only [List.length_cons, List.length_nil]; omega)]
  rw [Option.bind_some, List.nil_append]
  have e2 : (twoS (65535 - sumW (preS a0 a1 a2 a3 a4 a5 a6 o d ++ ([0, 0] ++ postS a7 a8 o)))).length = 2 := rfl
  have e3 : (preS a0 a1 a2 a3 a4 a5 a6 o d ++ ([0, 0] ++ postS a7 a8 o)).length = o.length + 20 := by
    rw [List.length_append, pre_len, List.length_append, post_len]
    simp only [List.length_cons, List.length_nil]
    omega
  have e4 : over 10 (preS a0 a1 a2 a3 a4 a5 a6 o d ++ ([0, 0] ++ postS a7 a8 o)) (twoS (65535 - sumW (preS a0 a1 a2 a3 a4 a5 a6 o d ++ ([0, 0] ++ postS a7 a8 o)))) = headIp a0 a1 a2 a3 a4 a5 a6 a7 a8 o d := by
    have t1 : (preS a0 a1 a2 a3 a4 a5 a6 o d ++ ([0, 0] ++ postS a7 a8 o)).take 10 = preS a0 a1 a2 a3 a4 a5 a6 o d := List.take_left' (pre_len a0 a1 a2 a3 a4 a5 a6 o d)
    have t2 : (preS a0 a1 a2 a3 a4 a5 a6 o d ++ ([0, 0] ++ postS a7 a8 o)).drop (10 + 2) = postS a7 a8 o := by
      rw [← List.append_assoc]
      exact List.drop_left' (by rw [List.length_append, pre_len]; rfl)
    unfold over
    rw [e2, t1, t2]
    unfold headIp sumIp
    with_reducible rfl
  rw [if_pos ⟨by rw [e2, e3]; omega, by rw [e2]; omega⟩, e4, if_pos (by rw [head_len]; omega)]
end Go.Proofs.Ytdphjljbdodonaa.PIpB
namespace Go.Proofs.Ytdphjljbdodonaa.Pure
open Go.RowKit Go.Proofs.Ytdphjljbdodonaa.PIpB Go.Proofs.YtdphjljbdodonaaW.PrintWords Go.Proofs.YtdphjljbdodonaaW.PrintLast Go.Proofs.YtdphjljbdodonaaW.PrintMore Go.Proofs.Ytdphjljbdodonaa.Ar Go.Proofs.Ytdphjljbdodonaa.HSum Go.Proofs.Ytdphjljbdodonaa.HExt
set_option linter.unusedVariables false
set_option linter.unusedSimpArgs false

theorem twenty : ∀ l : List Int, 20 ≤ l.length → ∃ (a0 a1 a2 a3 a4 a5 a6 a7 a8 a9 a10 a11 a12 a13 a14 a15 a16 a17 a18 a19 : Int) (t : List Int), l = a0 :: a1 :: a2 :: a3 :: a4 :: a5 :: a6 :: a7 :: a8 :: a9 :: a10 :: a11 :: a12 :: a13 :: a14 :: a15 :: a16 :: a17 :: a18 :: a19 :: t
  | a0 :: a1 :: a2 :: a3 :: a4 :: a5 :: a6 :: a7 :: a8 :: a9 :: a10 :: a11 :: a12 :: a13 :: a14 :: a15 :: a16 :: a17 :: a18 :: a19 :: t, _ => ⟨a0, a1, a2, a3, a4, a5, a6, a7, a8, a9, a10, a11, a12, a13, a14, a15, a16, a17, a18, a19, t, rfl⟩
  | [], h | [_], h | [_, _], h | [_, _, _], h | [_, _, _, _], h | [_, _, _, _, _], h | [_, _, _, _, _, _], h | [_, _, _, _, _, _, _], h | [_, _, _, _, _, _, _, _], h | [_, _, _, _, _, _, _, _, _], h | [_, _, _, _, _, _, _, _, _, _], h
  | [_, _, _, _, _, _, _, _, _, _, _], h | [_, _, _, _, _, _, _, _, _, _, _, _], h | [_, _, _, _, _, _, _, _, _, _, _, _, _], h | [_, _, _, _, _, _, _, _, _, _, _, _, _, _], h | [_, _, _, _, _, _, _, _, _, _, _, _, _, _, _], h
  | [_, _, _, _, _, _, _, _, _, _, _, _, _, _, _, _], h | [_, _, _, _, _, _, _, _, _, _, _, _, _, _, _, _, _], h | [_, _, _, _, _, _, _, _, _, _, _, _, _, _, _, _, _, _], h | [_, _, _, _, _, _, _, _, _, _, _, _, _, _, _, _, _, _, _], h => by simp at h

/-- The head of bytes that are a packet, put anew: the bytes, or the check sum is nought in place of all ones. -/
theorem head_back {l : List Int} (h : bytesB l = true) (hok : OkIp l) : ∃ Y Z : List Int, Y.length = 10 ∧ l.take (topS l).toNat = Y ++ ([rd l 10, rd l 11] ++ Z) ∧
    ∃ c : Int, headIp (rd l 1) (w2 l 4) (rd l 6 / 64 % 2 == 1) (rd l 6 / 32 % 2 == 1) (w2 l 6 % 8192) (rd l 8) (rd l 9) (65536 * w2 l 12 + w2 l 14) (65536 * w2 l 16 + w2 l 18) ((l.take (topS l).toNat).drop 20) ((l.take (w2 l 2).toNat).drop (topS l).toNat) = Y ++ (twoS c ++ Z) ∧
      (twoS c = [rd l 10, rd l 11] ∨ (c = 0 ∧ rd l 10 = 255 ∧ rd l 11 = 255)) := by
  have hB : Bytes l := fun x hx => bytesB_mem h hx
  have hlen := full_len hok
  obtain ⟨h1, h2, h3, h4, h5, h6, h7, h8⟩ := hok
  have ht : topS l = 4 * (rd l 0 - 64) := rfl
  have b := fun i => hB.at_ i
  obtain ⟨m, hm⟩ : ∃ m : Nat, (topS l).toNat = m + 20 := ⟨(topS l).toNat - 20, by omega⟩
  have hms : topS l = m + 20 := by omega
  have hol : (((l.take (topS l).toNat).drop 20).length : Int) = m := by rw [List.length_drop, List.length_take, hm]; omega
  have b0 := b 0; have b1 := b 1; have b2 := b 2; have b3 := b 3; have b4 := b 4; have b5 := b 5; have b6 := b 6; have b7 := b 7; have b8 := b 8; have b9 := b 9
  have b10 := b 10; have b11 := b 11; have b12 := b 12; have b13 := b 13; have b14 := b 14; have b15 := b 15; have b16 := b 16; have b17 := b 17; have b18 := b 18; have b19 := b 19
  clear b
  have e2 : w2 l 2 = 256 * rd l 2 + rd l 3 := rfl
  have e4 : w2 l 4 = 256 * rd l 4 + rd l 5 := rfl
  have e6 : w2 l 6 = 256 * rd l 6 + rd l 7 := rfl
  have e12 : w2 l 12 = 256 * rd l 12 + rd l 13 := rfl
  have e14 : w2 l 14 = 256 * rd l 14 + rd l 15 := rfl
  have e16 : w2 l 16 = 256 * rd l 16 + rd l 17 := rfl
  have e18 : w2 l 18 = 256 * rd l 18 + rd l 19 := rfl
  have hfl : flS (w2 l 6 % 8192) (rd l 6 / 64 % 2 == 1) (rd l 6 / 32 % 2 == 1) = w2 l 6 := by
    unfold flS
    by_cases c1 : rd l 6 / 64 % 2 = 1
    · rw [if_pos (by simp [c1])]
      by_cases c2 : rd l 6 / 32 % 2 = 1
      · rw [if_pos (by simp [c2])]; omega
      · rw [if_neg (by simp [c2])]; omega
    · rw [if_neg (by simp [c1])]
      by_cases c2 : rd l 6 / 32 % 2 = 1
      · rw [if_pos (by simp [c2])]; omega
      · rw [if_neg (by simp [c2])]; omega
  have hpre : preS (rd l 1) (w2 l 4) (rd l 6 / 64 % 2 == 1) (rd l 6 / 32 % 2 == 1) (w2 l 6 % 8192) (rd l 8) (rd l 9) ((l.take (topS l).toNat).drop 20) ((l.take (w2 l 2).toNat).drop (topS l).toNat) = [rd l 0, rd l 1, rd l 2, rd l 3, rd l 4, rd l 5, rd l 6, rd l 7, rd l 8, rd l 9] := by
    unfold preS
    rw [hfl, hol]
    have hq : 20 + (m : Int) + (((l.take (w2 l 2).toNat).drop (topS l).toNat).length : Int) = w2 l 2 := by rw [hol] at hlen; exact hlen
    rw [hq]
    unfold twoS
    have q0 : 69 + (m : Int) / 4 = rd l 0 := by omega
    have q2 : w2 l 2 % 65536 / 256 = rd l 2 := by omega
    have q3 : w2 l 2 % 256 = rd l 3 := by omega
    have q4 : w2 l 4 % 65536 / 256 = rd l 4 := by omega
    have q5 : w2 l 4 % 256 = rd l 5 := by omega
    have q6 : w2 l 6 % 65536 / 256 = rd l 6 := by omega
    have q7 : w2 l 6 % 256 = rd l 7 := by omega
    rw [q0, q2, q3, q4, q5, q6, q7]
    rfl
  have hpost : postS (65536 * w2 l 12 + w2 l 14) (65536 * w2 l 16 + w2 l 18) ((l.take (topS l).toNat).drop 20) = [rd l 12, rd l 13, rd l 14, rd l 15, rd l 16, rd l 17, rd l 18, rd l 19] ++ (l.take (topS l).toNat).drop 20 := by
    unfold postS fourS
    have q12 : (65536 * w2 l 12 + w2 l 14) / 16777216 % 256 = rd l 12 := by omega
    have q13 : (65536 * w2 l 12 + w2 l 14) / 65536 % 256 = rd l 13 := by omega
    have q14 : (65536 * w2 l 12 + w2 l 14) / 256 % 256 = rd l 14 := by omega
    have q15 : (65536 * w2 l 12 + w2 l 14) % 256 = rd l 15 := by omega
    have q16 : (65536 * w2 l 16 + w2 l 18) / 16777216 % 256 = rd l 16 := by omega
    have q17 : (65536 * w2 l 16 + w2 l 18) / 65536 % 256 = rd l 17 := by omega
    have q18 : (65536 * w2 l 16 + w2 l 18) / 256 % 256 = rd l 18 := by omega
    have q19 : (65536 * w2 l 16 + w2 l 18) % 256 = rd l 19 := by omega
    rw [q12, q13, q14, q15, q16, q17, q18, q19]
    rfl
  have htk : l.take (topS l).toNat = [rd l 0, rd l 1, rd l 2, rd l 3, rd l 4, rd l 5, rd l 6, rd l 7, rd l 8, rd l 9] ++ ([rd l 10, rd l 11] ++ ([rd l 12, rd l 13, rd l 14, rd l 15, rd l 16, rd l 17, rd l 18, rd l 19] ++ (l.take (topS l).toNat).drop 20)) := by
    rw [hm]
    obtain ⟨a0, a1, a2, a3, a4, a5, a6, a7, a8, a9, a10, a11, a12, a13, a14, a15, a16, a17, a18, a19, t, rfl⟩ := twenty l h1
    rfl
  refine ⟨[rd l 0, rd l 1, rd l 2, rd l 3, rd l 4, rd l 5, rd l 6, rd l 7, rd l 8, rd l 9], [rd l 12, rd l 13, rd l 14, rd l 15, rd l 16, rd l 17, rd l 18, rd l 19] ++ (l.take (topS l).toNat).drop 20, rfl, htk, ?_⟩
  unfold headIp sumIp
  rw [hpre, hpost]
  have hH : bytesB (l.take (topS l).toNat) = true := take_bytes h _
  have hT := sumW_tt hH
  rw [h5, htk] at hT
  have hZ : bytesB ([rd l 12, rd l 13, rd l 14, rd l 15, rd l 16, rd l 17, rd l 18, rd l 19] ++ (l.take (topS l).toNat).drop 20) = true :=
    bytesB_append (bytesB_of fun x hx => by simp only [List.mem_cons, List.not_mem_nil, or_false] at hx; omega) (bytesB_of fun x hx => bytesB_mem hH (List.mem_of_mem_drop hx))
  have hY : bytesB [rd l 0, rd l 1, rd l 2, rd l 3, rd l 4, rd l 5, rd l 6, rd l 7, rd l 8, rd l 9] = true := bytesB_of fun x hx => by simp only [List.mem_cons, List.not_mem_nil, or_false] at hx; omega
  generalize ([rd l 12, rd l 13, rd l 14, rd l 15, rd l 16, rd l 17, rd l 18, rd l 19] ++ (l.take (topS l).toNat).drop 20) = Z at *
  have h00 : bytesB [0, 0] = true := by rfl
  have hall : bytesB ([rd l 0, rd l 1, rd l 2, rd l 3, rd l 4, rd l 5, rd l 6, rd l 7, rd l 8, rd l 9] ++ ([0, 0] ++ Z)) = true := bytesB_append hY (bytesB_append h00 hZ)
  have hpos := tt_first _ hall (by simp)
  have hs := sumW_tt hall
  rw [tt_append [rd l 0, rd l 1, rd l 2, rd l 3, rd l 4, rd l 5, rd l 6, rd l 7, rd l 8, rd l 9] _ (by simp), tt_append [_, _] _ (by simp)] at hT hs hpos
  have ec : tt [rd l 10, rd l 11] = rd l 10 * 256 + rd l 11 := by simp [tt]
  have e0 : tt [(0 : Int), 0] = 0 := rfl
  have er : rd ([rd l 0, rd l 1, rd l 2, rd l 3, rd l 4, rd l 5, rd l 6, rd l 7, rd l 8, rd l 9] ++ ([0, 0] ++ Z)) 0 = rd l 0 := rfl
  rw [ec] at hT
  rw [e0] at hs hpos
  rw [er] at hpos
  rw [hs]
  have hZ0 := tt_nonneg hZ
  have hY0 := tt_nonneg hY
  generalize tt [rd l 0, rd l 1, rd l 2, rd l 3, rd l 4, rd l 5, rd l 6, rd l 7, rd l 8, rd l 9] = y at *
  generalize tt Z = z at *
  refine ⟨_, rfl, ?_⟩
  have hT' : (y + (rd l 10 * 256 + rd l 11 + z)) % 65535 = 0 := by
    unfold norm at hT
    split at hT <;> omega
  have hn : norm (y + (0 + z)) = (y + z - 1) % 65535 + 1 := by unfold norm; rw [if_neg (by omega)]; congr 2; omega
  rw [hn]
  by_cases hq : 65535 - ((y + z - 1) % 65535 + 1) = rd l 10 * 256 + rd l 11
  · left
    rw [hq]
    unfold twoS
    rw [show (rd l 10 * 256 + rd l 11) % 65536 / 256 = rd l 10 by omega, show (rd l 10 * 256 + rd l 11) % 256 = rd l 11 by omega]
  · right
    omega

theorem back_j0 (k : Nat) (l c : List Int) (hc : c.length ≤ l.length) (hc20 : 20 ≤ c.length)
    (h : c = l.take c.length ∨ (rd l 10 = 255 ∧ rd l 11 = 255 ∧ rd c 10 = 0 ∧ rd c 11 = 0 ∧ (c.set 10 255).set 11 255 = l.take c.length)) (h2 : c = l.take c.length → ¬ (rd l 10 = 255 ∧ rd l 11 = 255 ∧ rd c 10 = 0 ∧ rd c 11 = 0)) : towropelaw06_IpBack.j0 (k + 11) l c false = some true := by
  have hcc : ((c.length : Int)).toNat = c.length := Int.toNat_natCast _
  have fin : c = l.take c.length → (if 0 ≤ (c.length : Int) then if (c.length : Int) ≤ (l.length : Int) then if (strOfNums c).toList = (strOfNums (l.take ((c.length : Int)).toNat)).toList then (towropelaw06_live.f (k + 10)).bind fun t => some t else some false else none else none) = some true := fun e => by
    rw [if_pos (by omega), if_pos (by omega)]; (try rw [hcc]); rw [← e, if_pos rfl, ip_live, Option.bind_some]
  simp only [towropelaw06_IpBack.j0]
  rw [if_neg (by decide), if_pos (by omega)]
  by_cases a1 : rd l 10 = 255
  rotate_left
  · rw [if_neg a1]; exact fin (h.resolve_right (fun x => a1 x.1))
  rw [if_pos a1, if_pos (by omega)]
  by_cases a2 : rd l 11 = 255
  rotate_left
  · rw [if_neg a2]; exact fin (h.resolve_right (fun x => a2 x.2.1))
  rw [if_pos a2, if_pos (by omega)]
  by_cases a3 : rd c 10 = 0
  rotate_left
  · rw [if_neg a3]; exact fin (h.resolve_right (fun x => a3 x.2.2.1))
  rw [if_pos a3, if_pos (by omega)]
  by_cases a4 : rd c 11 = 0
  rotate_left
  · rw [if_neg a4]; exact fin (h.resolve_right (fun x => a4 x.2.2.2.1))
  rw [if_pos a4, if_pos (by omega), if_pos (by omega)]; (try rw [hcc])
  have e := (h.resolve_left (fun x => h2 x ⟨a1, a2, a3, a4⟩)).2.2.2.2
  rw [show ((10 : Int)).toNat = 10 from rfl, show ((11 : Int)).toNat = 11 from rfl, e, if_pos rfl, ip_live, Option.bind_some]
theorem IpBack : IpBackSt := by
  intro l _ hw
  have h := bytesB_wf hw
  have hB : Bytes l := fun x hx => bytesB_mem h hx
  refine ⟨l.length + 30, ?_⟩
  unfold towropelaw06_IpBack.f
  by_cases h7 : (l.length : Int) > 70000
  · rw [if_pos h7, show l.length + 30 = l.length + 20 + 10 by omega, ip_live, Option.bind_some]
  rw [if_neg h7, show l.length + 30 = l.length + 23 + 7 by omega, ipget_f (l.length + 23) l h (by omega), Option.bind_some, ipcode_f, Option.bind_some]
  rcases getIp_cases l with ⟨e, he, hg⟩ | ⟨hok, hg⟩
  · rw [hg]
    unfold noIp
    rw [if_neg he, show l.length + 23 + 7 = l.length + 20 + 10 by omega, ip_live, Option.bind_some]
  · have hlen := full_len hok
    obtain ⟨Y, Z, hY, htk, c, hhd, hcc⟩ := head_back h hok
    have hok' := hok
    obtain ⟨h1, h2, h3, h4, h5, h6, h7', h8⟩ := hok
    have ht : topS l = 4 * (rd l 0 - 64) := rfl
    have b1 := hB.at_ 1; have b8 := hB.at_ 8; have b9 := hB.at_ 9
    have w4 := w2_bd l hB 4; have w6 := w2_bd l hB 6; have w12 := w2_bd l hB 12; have w14 := w2_bd l hB 14; have w16 := w2_bd l hB 16; have w18 := w2_bd l hB 18; have w2_ := w2_bd l hB 2
    have hol : (((l.take (topS l).toNat).drop 20).length : Int) = topS l - 20 := by rw [List.length_drop, List.length_take]; omega
    have hck : ckS (w2 l 6 % 8192) ((l.take (topS l).toNat).drop 20) ((l.take (w2 l 2).toNat).drop (topS l).toNat) = 0 := by
      unfold ckS
      rw [if_neg (by omega), if_neg (by omega)]
    have hob : bytesB ((l.take (topS l).toNat).drop 20) = true := bytesB_of fun x hx => hB x (List.mem_of_mem_take (List.mem_of_mem_drop hx))
    rw [hg]
    unfold fullIp
    rw [if_pos rfl]
    have hput := ipput_f (l.length + 25) (rd l 1) (w2 l 4) (rd l 6 / 64 % 2 == 1) (rd l 6 / 32 % 2 == 1) (w2 l 6 % 8192) (rd l 8) (rd l 9) (65536 * w2 l 12 + w2 l 14) (65536 * w2 l 16 + w2 l 18) ((l.take (topS l).toNat).drop 20) ((l.take (w2 l 2).toNat).drop (topS l).toNat) b1 w4 b8 b9 (by omega) (by omega) hob hck
    have hhl := head_len (rd l 1) (w2 l 4) (rd l 6 / 64 % 2 == 1) (rd l 6 / 32 % 2 == 1) (w2 l 6 % 8192) (rd l 8) (rd l 9) (65536 * w2 l 12 + w2 l 14) (65536 * w2 l 16 + w2 l 18) ((l.take (topS l).toNat).drop 20) ((l.take (w2 l 2).toNat).drop (topS l).toNat)
    dsimp only
    rw [show l.length + 23 + 7 = l.length + 25 + 5 by omega, hput, Option.bind_some, ipcode_f, Option.bind_some, if_pos rfl]
    dsimp only
    rw [hhd] at hhl ⊢
    have hn : ((Y ++ (twoS c ++ Z) ++ (l.take (w2 l 2).toNat).drop (topS l).toNat).length : Int) = w2 l 2 := by
      rw [List.length_append, hhl]
      omega
    have etn : l.take (w2 l 2).toNat = Y ++ ([rd l 10, rd l 11] ++ Z) ++ (l.take (w2 l 2).toNat).drop (topS l).toNat := by
      rw [← htk]
      have := List.take_append_drop (topS l).toNat (l.take (w2 l 2).toNat)
      rw [List.take_take, Nat.min_eq_left (by omega)] at this
      exact this.symm
    have hnn : (Y ++ (twoS c ++ Z) ++ (l.take (w2 l 2).toNat).drop (topS l).toNat).length = (w2 l 2).toNat := by omega
    rw [if_neg (by omega), show decide (((Y ++ (twoS c ++ Z) ++ (l.take (w2 l 2).toNat).drop (topS l).toNat).length : Int) < 20) = false from decide_eq_false (by omega), show l.length + 25 + 5 = l.length + 19 + 11 by omega]
    obtain ⟨y0, y1, y2, y3, y4, y5, y6, y7, y8, y9, rfl⟩ : ∃ y0 y1 y2 y3 y4 y5 y6 y7 y8 y9 : Int, Y = [y0, y1, y2, y3, y4, y5, y6, y7, y8, y9] := by
      match Y, hY with
      | [y0, y1, y2, y3, y4, y5, y6, y7, y8, y9], _ => exact ⟨_, _, _, _, _, _, _, _, _, _, rfl⟩
    generalize (l.take (w2 l 2).toNat).drop (topS l).toNat = D at *
    refine back_j0 (l.length + 19) l _ (by omega) (by omega) ?_ ?_
    · rw [hnn, etn]
      rcases hcc with hcc | ⟨rfl, q1, q2⟩
      · left
        rw [hcc]
      · right
        exact ⟨q1, q2, rfl, rfl, by rw [q1, q2]; rfl⟩
    · intro e ⟨q1, q2, q3, q4⟩
      have a := congrArg (fun x => rd x ((10 : Nat) : Int)) e
      have b := rd_take l (w2 l 2).toNat 10 (by omega)
      rw [← hnn] at b
      exact absurd (q3.symm.trans (a.trans (b.trans q1))) (by decide)
end Go.Proofs.Ytdphjljbdodonaa.Pure
