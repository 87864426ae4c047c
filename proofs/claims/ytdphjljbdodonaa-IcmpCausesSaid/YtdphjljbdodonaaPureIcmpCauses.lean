/- What is told about any packet, and what any message is about. No conditions. -/
import Derived.Test.YtdphjljbdodonaaPIcmpx1
import Derived.Test.YtdphjljbdodonaaPIcmpx2
import Derived.Test.YtdphjljbdodonaaPIcmpx3
import Derived.Test.YtdphjljbdodonaaPIcmpx4
import Derived.Test.YtdphjljbdodonaaPIcmpx5
import Derived.Test.YtdphjljbdodonaaPIcmpx6
import Derived.Test.YtdphjljbdodonaaPIcmpx7
import Derived.Test.YtdphjljbdodonaaPIcmpx8
import Derived.Test.YtdphjljbdodonaaAr
import Derived.Test.YtdphjljbdodonaaHSum
import Derived.Test.YtdphjljbdodonaaQIcmpCauses
namespace Go.Proofs.Ytdphjljbdodonaa.PIcmp
open Go.RowKit Go.Proofs.YtdphjljbdodonaaW.PrintWords Go.Proofs.YtdphjljbdodonaaW.PrintLast Go.Proofs.YtdphjljbdodonaaW.PrintMore Go.Proofs.Ytdphjljbdodonaa.Ar Go.Proofs.Ytdphjljbdodonaa.HSum
set_option linter.unusedVariables false
set_option linter.unusedSimpArgs false

theorem bytesB_of {l : List Int} (h : ∀ x ∈ l, 0 ≤ x ∧ x ≤ 255) : bytesB l = true := by
  unfold bytesB
  rw [List.all_eq_true]
  intro x hx
  have := h x hx
  simpa using this
theorem bytesB_wf {l : List Int} (h : ∀ x ∈ l, (Lit.int .u8 x).wf = true) : bytesB l = true := bytesB_of fun x hx => bounds_u8 (h x hx)
theorem bytesB_mem {l : List Int} (h : bytesB l = true) {x : Int} (hx : x ∈ l) : 0 ≤ x ∧ x ≤ 255 := by
  have := List.all_eq_true.1 h x hx
  simpa using this

theorem or_i64 (x b : Int) (x0 : 0 ≤ x) (x1 : x ≤ 255) (b0 : 0 ≤ b) (b1 : b ≤ 255) : Go.bits .or .i64 (x * 256) b = x * 256 + b :=
  bits_join .i64 63 (by decide) (fun n h0 h1 => by rw [IntKind.wrap_i64]; omega) 8 (x * 256) b (by omega) (by omega) (by omega) b0 (by omega) (by omega)

/-- The pair at byte j, as a number. -/
def pair (l : List Int) (j : Nat) : Int := rd l j * 256 + (if j + 1 < l.length then rd l ((j + 1 : Nat) : Int) else 0)
theorem pr_pair {l : List Int} (h : bytesB l = true) (j : Nat) : pr l j = pair l j := by
  unfold pr pair
  have h0 := bytes_rd h (j : Int)
  have h1 := bytes_rd h ((j + 1 : Nat) : Int)
  split
  · exact or_i64 _ _ h0.1 h0.2 h1.1 h1.2
  · omega
theorem pair_bd {l : List Int} (h : bytesB l = true) (j : Nat) : 0 ≤ pair l j ∧ pair l j ≤ 65535 := by
  have h0 := bytes_rd h (j : Int)
  have h1 := bytes_rd h ((j + 1 : Nat) : Int)
  unfold pair
  split <;> omega

def norm (t : Int) : Int := if t = 0 then 0 else (t - 1) % 65535 + 1
theorem norm_add (t p : Int) (ht : 0 ≤ t) (p0 : 0 ≤ p) (p1 : p ≤ 65535) : addF (norm t) p = norm (t + p) := by
  unfold norm addF
  repeat' split
  all_goals omega
theorem norm_bd (t : Int) (h : 0 ≤ t) : 0 ≤ norm t ∧ norm t ≤ 65535 := by
  unfold norm
  split <;> omega
theorem foldW_norm (ps : List Int) (h : ∀ p ∈ ps, 0 ≤ p ∧ p ≤ 65535) : ∀ t : Int, 0 ≤ t → foldW (norm t) ps = norm (t + ps.sum) := by
  induction ps with
  | nil => intro t _; simp [foldW]
  | cons p ps ih =>
    intro t ht
    have hp := h p List.mem_cons_self
    have hc : foldW (norm t) (p :: ps) = foldW (addF (norm t) p) ps := rfl
    rw [hc, norm_add t p ht hp.1 hp.2, ih (fun q hq => h q (List.mem_cons_of_mem _ hq)) (t + p) (by omega), List.sum_cons, Int.add_assoc]

theorem all_bd {l : List Int} (h : bytesB l = true) : ∀ p ∈ HSum.all l, 0 ≤ p ∧ p ≤ 65535 := by
  intro p hp
  unfold HSum.all pre at hp
  obtain ⟨k, _, rfl⟩ := List.mem_map.1 hp
  rw [pr_pair h]
  exact pair_bd h _
theorem sum_nonneg (ps : List Int) (h : ∀ p ∈ ps, 0 ≤ p ∧ p ≤ 65535) : 0 ≤ ps.sum := by
  induction ps with
  | nil => simp
  | cons p ps ih =>
    rw [List.sum_cons]
    have := h p List.mem_cons_self
    have := ih (fun q hq => h q (List.mem_cons_of_mem _ hq))
    omega
theorem sumW_norm {l : List Int} (h : bytesB l = true) : sumW l = norm (HSum.all l).sum := by
  unfold sumW
  have := foldW_norm (HSum.all l) (all_bd h) 0 (by omega)
  rw [show norm 0 = 0 from rfl, Int.zero_add] at this
  exact this
theorem all_nonneg {l : List Int} (h : bytesB l = true) : 0 ≤ (HSum.all l).sum := sum_nonneg _ (all_bd h)
theorem sumW_top {l : List Int} (h : bytesB l = true) : 0 ≤ sumW l ∧ sumW l ≤ 65535 := by
  rw [sumW_norm h]
  exact norm_bd _ (all_nonneg h)
end Go.Proofs.Ytdphjljbdodonaa.PIcmp
namespace Go.Proofs.Ytdphjljbdodonaa.PIcmp
open Go.RowKit Go.Proofs.YtdphjljbdodonaaW.PrintWords Go.Proofs.YtdphjljbdodonaaW.PrintLast Go.Proofs.YtdphjljbdodonaaW.PrintMore Go.Proofs.Ytdphjljbdodonaa.Ar Go.Proofs.Ytdphjljbdodonaa.HSum
set_option linter.unusedVariables false
set_option linter.unusedSimpArgs false
theorem bytesB_append {a b : List Int} (ha : bytesB a = true) (hb : bytesB b = true) : bytesB (a ++ b) = true :=
  bytesB_of fun x hx => (List.mem_append.1 hx).elim (fun h => bytesB_mem ha h) (fun h => bytesB_mem hb h)

def twoS (n : Int) : List Int := [n % 65536 / 256, n % 256]
end Go.Proofs.Ytdphjljbdodonaa.PIcmp
namespace Go.Proofs.Ytdphjljbdodonaa.PIcmp
open Go.RowKit Go.Proofs.YtdphjljbdodonaaW.PrintWords Go.Proofs.YtdphjljbdodonaaW.PrintLast Go.Proofs.YtdphjljbdodonaaW.PrintMore Go.Proofs.Ytdphjljbdodonaa.Ar Go.Proofs.Ytdphjljbdodonaa.HSum
set_option linter.unusedVariables false
set_option linter.unusedSimpArgs false

theorem put_step (k : Nat) (x m n i sh i1 : Int) (l : List Int) (hi : i < n) (hsh : wrap64 (8 * wrap64 (wrap64 (m - 1) - i)) = sh) (hs : 0 ≤ sh) (hl : l.length < 140737488355328) (h1 : wrap64 (i + 1) = i1) :
    octet_put.l0 (k + 1) x m l n i = octet_put.l0 k x m (l ++ [(shr .u64 x sh) % 256]) n i1 := by
  simp only [octet_put.l0]
  rw [if_pos hi, hsh, if_pos hs, if_pos hl, h1]
theorem put_end (k : Nat) (x m n i : Int) (l : List Int) (hi : ¬ i < n) : octet_put.l0 (k + 1) x m l n i = some l := by
  simp only [octet_put.l0]
  rw [if_neg hi]
theorem shr0 (x : Int) : shr .u64 x 0 = x := by
  unfold shr
  rw [show (2 : Int) ^ min (Int.toNat 0) IntKind.u64.bits = 1 by decide +kernel]
  omega
theorem shr8 (x : Int) : shr .u64 x 8 = x / 256 := by
  unfold shr
  rw [show (2 : Int) ^ min (Int.toNat 8) IntKind.u64.bits = 256 by decide +kernel]
theorem shr16 (x : Int) : shr .u64 x 16 = x / 65536 := by
  unfold shr
  rw [show (2 : Int) ^ min (Int.toNat 16) IntKind.u64.bits = 65536 by decide +kernel]
theorem shr24 (x : Int) : shr .u64 x 24 = x / 16777216 := by
  unfold shr
  rw [show (2 : Int) ^ min (Int.toNat 24) IntKind.u64.bits = 16777216 by decide +kernel]

def fourS (n : Int) : List Int := [n / 16777216 % 256, n / 65536 % 256, n / 256 % 256, n % 256]
theorem clone_f (l : List Int) (hl : l.length < 140737488355328) : slices_Clone_byte_byte.f l = some l := by
  unfold slices_Clone_byte_byte.f
  rw [if_pos hl]

theorem put2_f (k : Nat) (l : List Int) (x : Int) (hl : l.length + 2 ≤ 140737488355328) : octet_put.f (k + 3) l x 2 = some (l ++ [x / 256 % 256, x % 256]) := by
  unfold octet_put.f
  rw [clone_f l (by omega)]
  simp only [Option.bind_some]
  rw [put_step (k + 2) x 2 2 0 8 1 l (by decide) (by decide +kernel) (by decide) (by omega) (by decide +kernel),
    put_step (k + 1) x 2 2 1 0 2 _ (by decide) (by decide +kernel) (by decide) (by simp; omega) (by decide +kernel), put_end k x 2 2 2 _ (by decide), shr8, shr0]
  simp
theorem put4_f (k : Nat) (l : List Int) (x : Int) (hl : l.length + 4 ≤ 140737488355328) : octet_put.f (k + 5) l x 4 = some (l ++ fourS x) := by
  unfold octet_put.f fourS
  rw [clone_f l (by omega)]
  simp only [Option.bind_some]
  rw [put_step (k + 4) x 4 4 0 24 1 l (by decide) (by decide +kernel) (by decide) (by omega) (by decide +kernel),
    put_step (k + 3) x 4 4 1 16 2 _ (by decide) (by decide +kernel) (by decide) (by simp; omega) (by decide +kernel),
    put_step (k + 2) x 4 4 2 8 3 _ (by decide) (by decide +kernel) (by decide) (by simp; omega) (by decide +kernel),
    put_step (k + 1) x 4 4 3 0 4 _ (by decide) (by decide +kernel) (by decide) (by simp; omega) (by decide +kernel), put_end k x 4 4 4 _ (by decide), shr24, shr16, shr8, shr0]
  simp

theorem put16_f (k : Nat) (l : List Int) (n : Int) (hl : l.length + 2 ≤ 140737488355328) : octet_Put16.f (k + 3) l n = some (l ++ twoS n) := by
  unfold octet_Put16.f
  rw [u16w, u64w, show n % 65536 % 18446744073709551616 = n % 65536 by omega, put2_f k l _ hl]
  simp only [Option.bind_some]
  unfold twoS
  rw [show n % 65536 / 256 % 256 = n % 65536 / 256 by omega, show n % 65536 % 256 = n % 256 by omega]
theorem put32_f (k : Nat) (l : List Int) (n : Int) (n0 : 0 ≤ n) (n1 : n ≤ 4294967295) (hl : l.length + 4 ≤ 140737488355328) : octet_Put32.f (k + 5) l n = some (l ++ fourS n) := by
  unfold octet_Put32.f
  rw [u64w, show n % 18446744073709551616 = n by omega, put4_f k l n hl]
  rfl
theorem fourS_bytes (n : Int) : bytesB (fourS n) = true := bytesB_of fun x hx => by
  unfold fourS at hx
  simp only [List.mem_cons, List.not_mem_nil, or_false] at hx
  omega
end Go.Proofs.Ytdphjljbdodonaa.PIcmp
namespace Go.Proofs.Ytdphjljbdodonaa.PIcmp
open Go.RowKit Go.Proofs.YtdphjljbdodonaaW.PrintWords Go.Proofs.YtdphjljbdodonaaW.PrintLast Go.Proofs.YtdphjljbdodonaaW.PrintMore Go.Proofs.Ytdphjljbdodonaa.Ar Go.Proofs.Ytdphjljbdodonaa.HSum
set_option linter.unusedVariables false
set_option linter.unusedSimpArgs false

def Bytes (l : List Int) : Prop := ∀ x ∈ l, 0 ≤ x ∧ x ≤ 255
theorem Bytes.at_ {l : List Int} (h : Bytes l) (i : Int) : 0 ≤ rd l i ∧ rd l i ≤ 255 := by
  unfold rd
  rw [List.getD_eq_getElem?_getD]
  rcases Nat.lt_or_ge i.toNat l.length with hi | hi
  · rw [List.getElem?_eq_getElem hi]
    exact h _ (List.getElem_mem hi)
  · rw [List.getElem?_eq_none hi]
    simp

/-- The bytes from a place on, or the error's number. -/
def viewS (l : List Int) (at_ n : Int) : List Int × Int :=
  if at_ < 0 ∨ at_ > l.length then ([], 8) else if n < 0 then ([], 1) else if n > l.length - at_ then ([], 2) else ((l.take (at_ + n).toNat).drop at_.toNat, 0)

theorem view_f (k : Nat) (l : List Int) (i n : Int) (hl : l.length ≤ 140737488351232) (i0 : -9223372036854775808 ≤ i) (i1 : i ≤ 9223372036854775807) (n0 : -9223372036854775808 ≤ n) (n1 : n ≤ 9223372036854775807) :
    octet_view.f (k + 1) l i n = some (viewS l i n) := by
  have hj : ∀ b : Bool, (b = true ↔ (i < 0 ∨ i > l.length)) → octet_view.j0 (k + 1) l i n b = some (viewS l i n) := by
    intro b hb
    simp only [octet_view.j0]
    unfold viewS
    by_cases h : i < 0 ∨ i > l.length
    · rw [if_pos (hb.2 h), if_pos h]
    · rw [if_neg (fun hh => h (hb.1 hh)), if_neg h, w64 (n := (l.length : Int) - i) (by omega) (by omega)]
      by_cases h1 : n < 0
      · rw [if_pos h1, if_pos h1]
      · rw [if_neg h1, if_neg h1]
        by_cases h2 : n > l.length - i
        · rw [if_pos h2, if_pos h2]
        · rw [if_neg h2, if_neg h2, w64 (n := i + n) (by omega) (by omega), if_pos (by omega), if_pos (by omega), if_pos (by omega)]
  unfold octet_view.f
  split
  · rename_i h
    exact hj true ⟨fun _ => .inl h, fun _ => rfl⟩
  · rename_i h
    exact hj _ ⟨fun hh => .inr (of_decide_eq_true hh), fun hh => decide_eq_true (hh.resolve_left h)⟩

theorem viewS_bytes {l : List Int} (h : Bytes l) (i n : Int) : Bytes (viewS l i n).1 := by
  unfold viewS
  repeat' split
  all_goals first | (intro x hx; cases hx) | (intro x hx; exact h x (List.mem_of_mem_take (List.mem_of_mem_drop hx)))

/-! ### numbers read -/
theorem or8 (x b : Int) (x0 : 0 ≤ x) (x1 : x ≤ 16777215) (b0 : 0 ≤ b) (b1 : b ≤ 255) : Go.bits .or .u64 (IntKind.u64.wrap (x * 256)) (IntKind.u64.wrap b) = x * 256 + b := by
  rw [u64w, u64w, show (x * 256) % 18446744073709551616 = x * 256 by omega, show b % 18446744073709551616 = b by omega]
  exact bits_join .u64 64 (by decide) (fun n h0 h1 => by rw [u64w]; omega) 8 (x * 256) b (by omega) (by omega) (by omega) b0 (by omega) (by omega)

/-- 256 n + b, byte by byte. -/
def numF (n : Int) (l : List Int) : Int := l.foldl (fun n b => 256 * n + b) n
def getS (l : List Int) (i n : Int) : Int × Int := (numF 0 (viewS l i n).1, (viewS l i n).2)

theorem numF_bd (l : List Int) (h : Bytes l) : ∀ n : Int, 0 ≤ n → 0 ≤ numF n l ∧ numF n l < (n + 1) * 256 ^ l.length := by
  induction l with
  | nil => intro n h0; simp [numF]; omega
  | cons b l ih =>
    intro n h0
    have hb := h b List.mem_cons_self
    obtain ⟨h1, h2⟩ := ih (fun x hx => h x (List.mem_cons_of_mem _ hx)) (256 * n + b) (by omega)
    refine ⟨h1, Int.lt_of_lt_of_le h2 ?_⟩
    have hp : (0 : Int) ≤ 256 ^ l.length := Int.pow_nonneg (by decide)
    have : (256 * n + b + 1) * 256 ^ l.length ≤ ((n + 1) * 256) * 256 ^ l.length := Int.mul_le_mul_of_nonneg_right (by omega) hp
    rw [List.length_cons, Int.pow_succ, Int.mul_comm (256 ^ l.length) 256, ← Int.mul_assoc]
    exact this

theorem drop_cons (l : List Int) (i : Nat) (h : i < l.length) : l.drop i = rd l i :: l.drop (i + 1) := by
  rw [List.drop_eq_getElem_cons h]
  congr 1
  unfold rd
  rw [Int.toNat_natCast, List.getD_eq_getElem?_getD, List.getElem?_eq_getElem h]
  rfl

theorem get_loop (e : Int) (v : List Int) (hv : Bytes v) (hl : v.length ≤ 4) : ∀ (d i k : Nat) (acc : Int), i + d = v.length → d < k → 0 ≤ acc → acc < 256 ^ i → octet_get.l0 k e acc v v.length i = some (numF acc (v.drop i), e) := by
  intro d
  induction d with
  | zero =>
    intro i k acc hi hk _ _
    obtain ⟨k, rfl⟩ : ∃ m, k = m + 1 := ⟨k - 1, by omega⟩
    simp only [octet_get.l0]
    rw [if_neg (by omega), List.drop_of_length_le (by omega)]
    rfl
  | succ d ih =>
    intro i k acc hi hk h0 h1
    obtain ⟨k, rfl⟩ : ∃ m, k = m + 1 := ⟨k - 1, by omega⟩
    have hr := hv.at_ (i : Int)
    have hp : (256 : Int) ^ i ≤ 16777216 := by
      have : i ≤ 3 := by omega
      rcases (by omega : i = 0 ∨ i = 1 ∨ i = 2 ∨ i = 3) with rfl | rfl | rfl | rfl <;> decide
    simp only [octet_get.l0]
    rw [if_pos (by omega), if_pos (by omega), if_pos (by omega), or8 _ _ h0 (by omega) hr.1 hr.2, w64 (by omega) (by omega)]
    have := ih (i + 1) k (acc * 256 + rd v i) (by omega) (by omega) (by omega) (by rw [Int.pow_succ]; omega)
    rw [show ((i : Int) + 1) = ((i + 1 : Nat) : Int) from rfl, this, drop_cons v i (by omega)]
    simp only [numF, List.foldl_cons]
    rw [Int.mul_comm]

theorem viewS_four (l : List Int) (i n : Int) (h : n ≤ 4) : (viewS l i n).1.length ≤ 4 := by
  unfold viewS
  repeat' split
  all_goals simp
  all_goals omega

theorem get_f (k : Nat) (l : List Int) (i n : Int) (hB : Bytes l) (hl : l.length ≤ 140737488351232) (i0 : -9223372036854775808 ≤ i) (i1 : i ≤ 9223372036854775807) (n0 : 0 ≤ n) (n1 : n ≤ 4) :
    octet_get.f (k + 5) l i n = some (getS l i n) := by
  unfold octet_get.f
  rw [view_f (k + 4) l i n hl i0 i1 (by omega) (by omega)]
  simp only [Option.bind_some]
  have h4 := viewS_four l i n n1
  have := get_loop (viewS l i n).2 (viewS l i n).1 (viewS_bytes hB i n) h4 (viewS l i n).1.length 0 (k + 5) 0 (by omega) (by omega) (by omega) (by simp)
  rw [List.drop_zero] at this
  exact this

theorem getS_bd (l : List Int) (hB : Bytes l) (i n : Int) : 0 ≤ (getS l i n).1 ∧ (getS l i n).1 < 256 ^ (viewS l i n).1.length := by
  have := numF_bd _ (viewS_bytes hB i n) 0 (by omega)
  rw [Int.zero_add, Int.one_mul] at this
  exact this
theorem viewS_len_n (l : List Int) (i n : Int) (h : 0 ≤ n) : (viewS l i n).1.length ≤ n.toNat := by
  unfold viewS
  repeat' split
  all_goals simp
  all_goals omega
theorem pow_le256 {a b : Nat} (h : a ≤ b) : (256 : Int) ^ a ≤ 256 ^ b := by
  have e : ∀ c : Nat, ((256 ^ c : Nat) : Int) = (256 : Int) ^ c := fun c => Int.natCast_pow 256 c
  rw [← e, ← e]
  exact Int.ofNat_le.2 (Nat.pow_le_pow_right (by decide) h)

theorem get16_f (k : Nat) (l : List Int) (i : Int) (hB : Bytes l) (hl : l.length ≤ 140737488351232) (i0 : -9223372036854775808 ≤ i) (i1 : i ≤ 9223372036854775807) :
    octet_Get16.f (k + 5) l i = some (getS l i 2) := by
  unfold octet_Get16.f
  rw [get_f k l i 2 hB hl i0 i1 (by omega) (by omega)]
  simp only [Option.bind_some]
  have := getS_bd l hB i 2
  have h2 := pow_le256 (viewS_len_n l i 2 (by omega))
  rw [w64 (by omega) (by have : (256 : Int) ^ (2 : Int).toNat = 65536 := by decide
                         omega)]
theorem get32_f (k : Nat) (l : List Int) (i : Int) (hB : Bytes l) (hl : l.length ≤ 140737488351232) (i0 : -9223372036854775808 ≤ i) (i1 : i ≤ 9223372036854775807) :
    octet_Get32.f (k + 5) l i = some (getS l i 4) := by
  unfold octet_Get32.f
  rw [get_f k l i 4 hB hl i0 i1 (by omega) (by omega)]
  simp only [Option.bind_some]
  have := getS_bd l hB i 4
  have h2 := pow_le256 (viewS_len_n l i 4 (by omega))
  have h3 : (256 : Int) ^ (4 : Int).toNat = 4294967296 := by decide
  rw [show (getS l i 4).1 % 4294967296 = (getS l i 4).1 by omega]

/-! ### the reference's number -/
theorem rd_view (l : List Int) (i n j : Nat) (h : i + n ≤ l.length) (hj : j < n) : rd ((l.take (i + n)).drop i) j = rd l ((i + j : Nat) : Int) := by
  unfold rd
  simp only [Int.toNat_natCast]
  rw [List.getD_eq_getElem?_getD, List.getD_eq_getElem?_getD, List.getElem?_drop, List.getElem?_take, if_pos (by omega)]

theorem getS_four (l : List Int) (i n : Nat) (h : i + n ≤ l.length) : getS l i n = (numF 0 ((l.take (i + n)).drop i), 0) := by
  unfold getS viewS
  rw [if_neg (by omega), if_neg (by omega), if_neg (by omega)]
  rfl
/-- Two bytes as a number. -/
def w2 (l : List Int) (i : Int) : Int := 256 * rd l i + rd l (i + 1)
theorem view_two (l : List Int) (i : Nat) (h : i + 2 ≤ l.length) : (l.take (i + 2)).drop i = [rd l i, rd l ((i + 1 : Nat) : Int)] := by
  have hv : ((l.take (i + 2)).drop i).length = 2 := by rw [List.length_drop, List.length_take]; omega
  have h0 := rd_view l i 2 0 h (by omega)
  have h1 := rd_view l i 2 1 h (by omega)
  generalize (l.take (i + 2)).drop i = v at *
  match v, hv with
  | [a, b], _ =>
    have e0 : a = rd l ((i + 0 : Nat) : Int) := h0
    have e1 : b = rd l ((i + 1 : Nat) : Int) := h1
    rw [e0, e1]
    rfl
theorem view_four (l : List Int) (i : Nat) (h : i + 4 ≤ l.length) : (l.take (i + 4)).drop i = [rd l i, rd l ((i + 1 : Nat) : Int), rd l ((i + 2 : Nat) : Int), rd l ((i + 3 : Nat) : Int)] := by
  have hv : ((l.take (i + 4)).drop i).length = 4 := by rw [List.length_drop, List.length_take]; omega
  have h0 := rd_view l i 4 0 h (by omega)
  have h1 := rd_view l i 4 1 h (by omega)
  have h2 := rd_view l i 4 2 h (by omega)
  have h3 := rd_view l i 4 3 h (by omega)
  generalize (l.take (i + 4)).drop i = v at *
  match v, hv with
  | [a, b, c, d], _ =>
    have e0 : a = rd l ((i + 0 : Nat) : Int) := h0
    have e1 : b = rd l ((i + 1 : Nat) : Int) := h1
    have e2 : c = rd l ((i + 2 : Nat) : Int) := h2
    have e3 : d = rd l ((i + 3 : Nat) : Int) := h3
    rw [e0, e1, e2, e3]
    rfl
theorem getS2 (l : List Int) (i : Nat) (h : i + 2 ≤ l.length) : getS l i 2 = (w2 l i, 0) := by
  rw [show (2 : Int) = ((2 : Nat) : Int) from rfl, getS_four l i 2 h, view_two l i h]
  unfold numF w2
  simp only [List.foldl_cons, List.foldl_nil]
  rw [show ((i : Int) + 1) = ((i + 1 : Nat) : Int) by omega, show 256 * (256 * 0 + rd l i) = 256 * rd l i by omega]
theorem getS4 (l : List Int) (i : Nat) (h : i + 4 ≤ l.length) : getS l i 4 = (65536 * w2 l i + w2 l ((i + 2 : Nat) : Int), 0) := by
  rw [show (4 : Int) = ((4 : Nat) : Int) from rfl, getS_four l i 4 h, view_four l i h]
  unfold numF w2
  simp only [List.foldl_cons, List.foldl_nil]
  rw [show ((i : Int) + 1) = ((i + 1 : Nat) : Int) by omega, show (((i + 2 : Nat) : Int) + 1) = ((i + 3 : Nat) : Int) by omega]
  congr 1
  omega
theorem w2_bd (l : List Int) (hB : Bytes l) (i : Int) : 0 ≤ w2 l i ∧ w2 l i ≤ 65535 := by
  have := hB.at_ i
  have := hB.at_ (i + 1)
  unfold w2
  omega
end Go.Proofs.Ytdphjljbdodonaa.PIcmp
namespace Go.Proofs.Ytdphjljbdodonaa.PIcmp
open Go.RowKit Go.Proofs.YtdphjljbdodonaaW.PrintWords Go.Proofs.YtdphjljbdodonaaW.PrintLast Go.Proofs.YtdphjljbdodonaaW.PrintMore Go.Proofs.Ytdphjljbdodonaa.Ar Go.Proofs.Ytdphjljbdodonaa.HSum
set_option linter.unusedVariables false
set_option linter.unusedSimpArgs false

theorem number_loop (l : List Int) (hB : Bytes l) (hl : l.length ≤ 140737488351232) (i n : Nat) (hn : n ≤ 4) (hi : i + n ≤ l.length) : ∀ (d j k : Nat) (acc : Int), j + d = n → d < k → 0 ≤ acc → acc < 256 ^ j →
    towroperef07_number.l0 k l i n acc j = some (numF acc (((l.take (i + n)).drop i).drop j)) := by
  have hvl : ((l.take (i + n)).drop i).length = n := by simp; omega
  intro d
  induction d with
  | zero =>
    intro j k acc hj hk _ _
    obtain ⟨k, rfl⟩ : ∃ m, k = m + 1 := ⟨k - 1, by omega⟩
    simp only [towroperef07_number.l0]
    rw [if_neg (by omega), List.drop_of_length_le (by omega)]
    rfl
  | succ d ih =>
    intro j k acc hj hk h0 h1
    obtain ⟨k, rfl⟩ : ∃ m, k = m + 1 := ⟨k - 1, by omega⟩
    have c1 : (j : Int) < (n : Int) := Int.ofNat_lt.2 (by omega)
    have c2 : (0 : Int) ≤ ((i + j : Nat) : Int) := Int.natCast_nonneg _
    have c3 : ((i + j : Nat) : Int) < (l.length : Int) := Int.ofNat_lt.2 (by omega)
    have c4 : i + j ≤ 140737488351232 := by omega
    have c5 : j ≤ 3 := by omega
    have hr := hB.at_ ((i + j : Nat) : Int)
    have hp : (256 : Int) ^ j ≤ 16777216 := by
      rcases (by omega : j = 0 ∨ j = 1 ∨ j = 2 ∨ j = 3) with rfl | rfl | rfl | rfl <;> decide
    have ha : acc ≤ 16777215 := by omega
    have e1 : wrap64 ((i : Int) + j) = ((i + j : Nat) : Int) := w64 (n := ((i + j : Nat) : Int)) (by omega) (by omega)
    have e4 : wrap64 ((j : Int) + 1) = ((j + 1 : Nat) : Int) := w64 (n := ((j + 1 : Nat) : Int)) (by omega) (by omega)
    generalize hb : rd l ((i + j : Nat) : Int) = b at *
    have e2 : wrap64 (wrap64 (256 * acc) + wrap64 b) = 256 * acc + b := by
      rw [w64 (n := 256 * acc) (by omega) (by omega), w64 (n := b) (by omega) (by omega), w64 (by omega) (by omega)]
    simp only [towroperef07_number.l0]
    rw [e1, if_pos c1, if_pos c2, if_pos c3, hb, e2, e4]
    have := ih (j + 1) k (256 * acc + b) (by omega) (by omega) (by omega) (by rw [Int.pow_succ]; omega)
    rw [this, drop_cons ((l.take (i + n)).drop i) j (by omega), rd_view l i n j hi (by omega), hb]
    simp only [numF, List.foldl_cons]

theorem number_f (k : Nat) (l : List Int) (i n : Nat) (hB : Bytes l) (hl : l.length ≤ 140737488351232) (hn : n ≤ 4) (hi : i + n ≤ l.length) : towroperef07_number.f (k + 6) l i n = some (getS l i n).1 := by
  unfold towroperef07_number.f
  have := number_loop l hB hl i n hn hi n 0 (k + 6) 0 (by omega) (by omega) (by omega) (by simp)
  rw [List.drop_zero] at this
  unfold getS viewS
  rw [if_neg (by omega), if_neg (by omega), if_neg (by omega)]
  exact this
end Go.Proofs.Ytdphjljbdodonaa.PIcmp
namespace Go.Proofs.Ytdphjljbdodonaa.PIcmp
open Go.RowKit Go.Proofs.YtdphjljbdodonaaW.PrintWords Go.Proofs.YtdphjljbdodonaaW.PrintLast Go.Proofs.YtdphjljbdodonaaW.PrintMore Go.Proofs.Ytdphjljbdodonaa.Ar Go.Proofs.Ytdphjljbdodonaa.HSum
set_option linter.unusedVariables false
set_option linter.unusedSimpArgs false

theorem check_f (l : List Int) (hl : l.length ≤ 140737488355320) (h : bytesB l = true) : sum_Check.f l = some (65535 - sumW l) := by
  have := sumW_top h
  unfold sum_Check.f sum_Sum.f
  rw [if_pos ⟨h, by omega⟩]
  simp only [Option.bind_some]
  rw [w64 (by omega) (by omega)]
end Go.Proofs.Ytdphjljbdodonaa.PIcmp
namespace Go.Proofs.Ytdphjljbdodonaa.PIcmp
open Go.RowKit Go.Proofs.YtdphjljbdodonaaW.PrintWords Go.Proofs.YtdphjljbdodonaaW.PrintLast Go.Proofs.YtdphjljbdodonaaW.PrintMore Go.Proofs.Ytdphjljbdodonaa.Ar Go.Proofs.Ytdphjljbdodonaa.HSum Go.Proofs.Ytdphjljbdodonaa.HExt
set_option linter.unusedVariables false
set_option linter.unusedSimpArgs false

/-- A message with its check sum. -/
def msgS (t c r : Int) (l : List Int) : List Int := [t, c] ++ (twoS (65535 - sumW ([t, c, 0, 0] ++ (fourS r ++ l))) ++ (fourS r ++ l))
theorem raw_bytes {t c r : Int} {l : List Int} (t0 : 0 ≤ t ∧ t ≤ 255) (c0 : 0 ≤ c ∧ c ≤ 255) (h : bytesB l = true) : bytesB ([t, c, 0, 0] ++ (fourS r ++ l)) = true :=
  bytesB_append (bytesB_of fun x hx => by simp only [List.mem_cons, List.not_mem_nil, or_false] at hx; omega) (bytesB_append (fourS_bytes r) h)
theorem icmpput_f (k : Nat) (t c r : Int) (l : List Int) (t0 : 0 ≤ t ∧ t ≤ 255) (c0 : 0 ≤ c ∧ c ≤ 255) (r0 : 0 ≤ r ∧ r ≤ 4294967295) (h : bytesB l = true) :
    icmp_Put.f (k + 5) t c r l = if (l.length : Int) > 65507 then some ([], 9) else some (msgS t c r l, 0) := by
  unfold icmp_Put.f
  by_cases hl : (l.length : Int) > 65507
  · rw [if_pos hl, if_pos hl]
  · rw [if_neg hl, if_neg hl, put32_f k _ r r0.1 r0.2 (by simp)]
    have hb := raw_bytes (r := r) t0 c0 h
    rw [← List.append_assoc] at hb
    simp only [Option.bind_some]
    have e4 : ([t, c, 0, 0] ++ fourS r).length = 8 := rfl
    rw [if_pos (by omega), check_f _ (by rw [List.length_append]; omega) hb]
    simp only [Option.bind_some]
    rw [show k + 5 = (k + 2) + 3 by omega, put16_f (k + 2) [] _ (by simp)]
    simp only [Option.bind_some, List.nil_append]
    rw [if_pos ⟨by rw [List.length_append, e4]; simp only [twoS, List.length_cons, List.length_nil]; omega, by simp [twoS]⟩]
    unfold over msgS
    rw [List.append_assoc]
    rfl

theorem icmp_live (k : Nat) : towropelaw07_live.f (k + 5) = some true := by
  unfold towropelaw07_live.f icmp_Echo.f
  rw [clone_f [] (by simp)]
  simp only [Option.bind_some]
  rw [icmpput_f k 8 0 _ [] (by omega) (by omega) (by decide +kernel) (by rfl), if_neg (by simp)]
  simp only [Option.bind_some, towropelaw07_code.f, if_true]
  decide +kernel
theorem code_f (x : Int) : towropelaw07_code.f x = some x := rfl

theorem same_refl (t c r : Int) (l : List Int) : towroperef07_Same.f t c r l t c r l = some true := by simp [towroperef07_Same.f]
end Go.Proofs.Ytdphjljbdodonaa.PIcmp
namespace Go.Proofs.Ytdphjljbdodonaa.Pure
open Go.RowKit Go.Proofs.Ytdphjljbdodonaa.PIcmp Go.Proofs.YtdphjljbdodonaaW.PrintWords Go.Proofs.YtdphjljbdodonaaW.PrintLast Go.Proofs.YtdphjljbdodonaaW.PrintMore Go.Proofs.Ytdphjljbdodonaa.Ar Go.Proofs.Ytdphjljbdodonaa.HSum
set_option linter.unusedVariables false
set_option linter.unusedSimpArgs false

/-- How many bytes of a packet are told. -/
def aboutS (l : List Int) : Int := if 0 < l.length ∧ rd l 0 % 16 > 5 then (if 4 * (rd l 0 % 16) + 8 > l.length then l.length else 4 * (rd l 0 % 16) + 8) else if 28 > (l.length : Int) then l.length else 28
theorem about_bd (l : List Int) (hB : Bytes l) : 0 ≤ aboutS l ∧ aboutS l ≤ l.length := by
  have := hB.at_ 0
  unfold aboutS
  repeat' split
  all_goals omega
theorem about_f (a c : Int) (l : List Int) (hB : Bytes l) (hl : l.length ≤ 1000) : icmp_About.f a c l = some (a, c, 0, l.take (aboutS l).toNat) := by
  have r0 := hB.at_ 0
  have hb := about_bd l hB
  unfold icmp_About.f
  by_cases h0 : (l.length : Int) > 0
  · rw [if_pos h0, if_pos (by omega), show Go.bits .and .u8 (rd l 0) 15 = rd l 0 % 16 from u8_and15 _ (by omega) (by omega), w64 (n := rd l 0 % 16) (by omega) (by omega), w64 (n := 4 * (rd l 0 % 16)) (by omega) (by omega)]
    have e : mn (wrap64 (mx 20 (4 * (rd l 0 % 16)) + 8)) (l.length : Int) = aboutS l := by
      unfold mn mx aboutS
      rw [w64 (by split <;> omega) (by split <;> omega)]
      repeat' split
      all_goals omega
    rw [e, if_pos hb.1, if_pos hb.2, clone_f _ (by rw [List.length_take]; omega)]
    rfl
  · have e : mn (20 + 8) (l.length : Int) = aboutS l := by
      unfold mn aboutS
      repeat' split
      all_goals omega
    rw [if_neg h0, e, if_pos hb.1, if_pos hb.2, clone_f _ (by rw [List.length_take]; omega)]
    rfl
theorem refabout_f (k : Nat) (l : List Int) (hB : Bytes l) (hl : l.length ≤ 1000) : towroperef07_About.f (k + 1) l = some (aboutS l) := by
  have r0 := hB.at_ 0
  unfold towroperef07_About.f
  by_cases h0 : (l.length : Int) > 0
  · have hp : 0 < l.length := by omega
    rw [if_pos h0, if_pos h0, tm _ _ r0.1]
    by_cases h5 : rd l 0 % 16 > 5
    · have e : aboutS l = if 4 * (rd l 0 % 16) + 8 > (l.length : Int) then (l.length : Int) else 4 * (rd l 0 % 16) + 8 := by unfold aboutS; rw [if_pos ⟨hp, h5⟩]
      rw [decide_eq_true h5, e]
      simp only [towroperef07_About.j0]
      rw [if_pos trivial, if_pos h0, tm _ _ r0.1, w64 (n := rd l 0 % 16) (by omega) (by omega), w64 (n := 4 * (rd l 0 % 16)) (by omega) (by omega), w64 (n := 4 * (rd l 0 % 16) + 8) (by omega) (by omega)]
      split <;> rfl
    · have e : aboutS l = if 28 > (l.length : Int) then (l.length : Int) else 28 := by unfold aboutS; rw [if_neg (fun h => h5 h.2)]
      rw [decide_eq_false h5, e]
      simp only [towroperef07_About.j0]
      rw [if_neg (by simp)]
      split <;> rfl
  · have e : aboutS l = if 28 > (l.length : Int) then (l.length : Int) else 28 := by unfold aboutS; rw [if_neg (fun h => h0 (by have := h.1; omega))]
    rw [if_neg h0, e]
    simp only [towroperef07_About.j0]
    rw [if_neg (by simp)]
    split <;> rfl
abbrev IpR := Int × Int × Bool × Bool × Int × Int × Int × Int × Int × List Int × List Int × Int
def noIp (e : Int) : IpR := (0, 0, false, false, 0, 0, 0, 0, 0, [], [], e)
def topS (l : List Int) : Int := 4 * (rd l 0 - 64)
def causeS (t : Int) (l : List Int) : IpR :=
  if ¬ (t = 3 ∨ t = 11) then noIp 6 else if (l.length : Int) < 28 then noIp 2 else if rd l 0 < 69 ∨ rd l 0 > 79 then noIp 3 else if (l.length : Int) < topS l + 8 then noIp 2
  else (rd l 1, w2 l 4, rd l 6 / 64 % 2 == 1, rd l 6 / 32 % 2 == 1, w2 l 6 % 8192, rd l 8, rd l 9, 65536 * w2 l 12 + w2 l 14, 65536 * w2 l 16 + w2 l 18, (l.take (topS l).toNat).drop 20, (l.take (topS l + 8).toNat).drop (topS l).toNat, 0)

theorem and_one (x : Int) (x0 : 0 ≤ x ∧ x ≤ 65535) : Go.bits .and .i64 x 1 = x % 2 :=
  bits_mask .i64 16 (by decide) (fun n h0 h1 => by rw [IntKind.wrap_i64]; omega) 1 (by decide) x x0.1 (by omega)
theorem and_off (x : Int) (x0 : 0 ≤ x ∧ x ≤ 65535) : Go.bits .and .i64 x 8191 = x % 8192 :=
  bits_mask .i64 16 (by decide) (fun n h0 h1 => by rw [IntKind.wrap_i64]; omega) 13 (by decide) x x0.1 (by omega)
theorem cause_f (k : Nat) (t c r : Int) (l : List Int) (h : bytesB l = true) (hl : l.length ≤ 1000) : icmp_Cause.f (k + 5) t c r l = some (causeS t l) := by
  have hB : Bytes l := fun x hx => bytesB_mem h hx
  have r0 := hB.at_ 0
  have he : icmp_Error.f t c r l = some (decide (t = 3 ∨ t = 11)) := by
    unfold icmp_Error.f
    by_cases h3 : t = 3
    · simp [h3]
    · by_cases h11 : t = 11 <;> simp [h3, h11]
  unfold icmp_Cause.f causeS
  by_cases ht : t = 3 ∨ t = 11
  · rw [he, decide_eq_true ht, Option.bind_some, if_pos rfl, if_neg (show ¬¬(t = 3 ∨ t = 11) from fun x => x ht)]
    by_cases h28 : (l.length : Int) < 28
    · rw [if_pos h28, if_pos h28]; rfl
    · rw [if_neg h28, if_neg h28, if_pos (by omega)]
      by_cases hf : rd l 0 < 69 ∨ rd l 0 > 79
      · rw [if_pos hf]
        by_cases h1 : rd l 0 < 69
        · rw [if_pos h1]; rfl
        · rw [if_neg h1, if_pos (hf.resolve_left h1)]; rfl
      · rw [if_neg hf, if_neg (fun x => hf (.inl x)), if_neg (fun x => hf (.inr x)), show Go.bits .and .u8 (rd l 0) 15 = rd l 0 % 16 from u8_and15 _ (by omega) (by omega), w64 (n := rd l 0 % 16) (by omega) (by omega), w64 (n := 4 * (rd l 0 % 16)) (by omega) (by omega)]
        have e : 4 * (rd l 0 % 16) = topS l := by unfold topS; omega
        rw [e]
        have t0 : 20 ≤ topS l ∧ topS l ≤ 60 := by unfold topS; omega
        rw [w64 (n := topS l + 8) (by omega) (by omega)]
        by_cases h2 : (l.length : Int) < topS l + 8
        · rw [if_pos h2, if_pos h2]; rfl
        · rw [if_neg h2, if_neg h2]
          have g4 := get16_f k l 4 hB (by omega) (by omega) (by omega)
          have g6 := get16_f k l 6 hB (by omega) (by omega) (by omega)
          have g12 := get32_f k l 12 hB (by omega) (by omega) (by omega)
          have g16 := get32_f k l 16 hB (by omega) (by omega) (by omega)
          have e4 : getS l 4 2 = (w2 l 4, 0) := getS2 l 4 (by omega)
          have e6 : getS l 6 2 = (w2 l 6, 0) := getS2 l 6 (by omega)
          have e12 : getS l 12 4 = (65536 * w2 l 12 + w2 l 14, 0) := getS4 l 12 (by omega)
          have e16 : getS l 16 4 = (65536 * w2 l 16 + w2 l 18, 0) := getS4 l 16 (by omega)
          have b4 := w2_bd l hB 4
          have b6 := w2_bd l hB 6
          have r6 := hB.at_ 6
          have r7 := hB.at_ 7
          have e7 : w2 l 6 = 256 * rd l 6 + rd l 7 := rfl
          rw [g4, g6, g12, g16, e4, e6, e12, e16]
          simp only [Option.bind_some]
          iterate 5 rw [if_pos (by omega)]
          rw [clone_f _ (by rw [List.length_drop, List.length_take]; omega)]
          simp only [Option.bind_some]
          iterate 3 rw [if_pos (by omega)]
          rw [clone_f _ (by rw [List.length_drop, List.length_take]; omega)]
          simp only [Option.bind_some]
          rw [u16w, and_one _ (by omega), and_one _ (by omega), and_off _ b6, show w2 l 4 % 65536 = w2 l 4 by omega]
          rw [show (w2 l 6 / 16384 % 2 == 1) = (rd l 6 / 64 % 2 == 1) by rw [Bool.eq_iff_iff, beq_iff_eq, beq_iff_eq]; omega, show (w2 l 6 / 8192 % 2 == 1) = (rd l 6 / 32 % 2 == 1) by rw [Bool.eq_iff_iff, beq_iff_eq, beq_iff_eq]; omega]
  · rw [he, decide_eq_false ht, Option.bind_some, if_neg (by simp), if_pos ht]; rfl
theorem refcause_f (k : Nat) (t c r : Int) (l : List Int) (h : bytesB l = true) (hl : l.length ≤ 1000) : towroperef07_Cause.f (k + 8) t c r l = some (causeS t l) := by
  have hB : Bytes l := fun x hx => bytesB_mem h hx
  have r0 := hB.at_ 0
  have hj1 : ∀ b : Bool, (b = true ↔ rd l 0 < 69 ∨ rd l 0 > 79) → ¬ (l.length : Int) < 28 → towroperef07_Cause.j1 (k + 7) l b = some (if rd l 0 < 69 ∨ rd l 0 > 79 then noIp 3 else if (l.length : Int) < topS l + 8 then noIp 2
      else (rd l 1, w2 l 4, rd l 6 / 64 % 2 == 1, rd l 6 / 32 % 2 == 1, w2 l 6 % 8192, rd l 8, rd l 9, 65536 * w2 l 12 + w2 l 14, 65536 * w2 l 16 + w2 l 18, (l.take (topS l).toNat).drop 20, (l.take (topS l + 8).toNat).drop (topS l).toNat, 0)) := by
    intro b hb h28
    simp only [towroperef07_Cause.j1]
    by_cases hf : rd l 0 < 69 ∨ rd l 0 > 79
    · rw [if_pos (hb.2 hf), if_pos hf]; rfl
    · rw [if_neg (fun x => hf (hb.1 x)), if_neg hf, if_pos (by omega), w64 (n := rd l 0) (by omega) (by omega), w64 (n := rd l 0 - 64) (by omega) (by omega), w64 (n := 4 * (rd l 0 - 64)) (by omega) (by omega)]
      have e : 4 * (rd l 0 - 64) = topS l := rfl
      rw [e]
      have t0 : 20 ≤ topS l ∧ topS l ≤ 60 := by unfold topS; omega
      rw [w64 (n := topS l + 8) (by omega) (by omega)]
      by_cases h2 : (l.length : Int) < topS l + 8
      · rw [if_pos h2, if_pos h2]; rfl
      · rw [if_neg h2, if_neg h2]
        have n4 : towroperef07_number.f (k + 6) l 4 2 = some (getS l 4 2).1 := number_f k l 4 2 hB (by omega) (by omega) (by omega)
        have n6 : towroperef07_number.f (k + 6) l 6 2 = some (getS l 6 2).1 := number_f k l 6 2 hB (by omega) (by omega) (by omega)
        have n12 : towroperef07_number.f (k + 6) l 12 4 = some (getS l 12 4).1 := number_f k l 12 4 hB (by omega) (by omega) (by omega)
        have n16 : towroperef07_number.f (k + 6) l 16 4 = some (getS l 16 4).1 := number_f k l 16 4 hB (by omega) (by omega) (by omega)
        have e4 : getS l 4 2 = (w2 l 4, 0) := getS2 l 4 (by omega)
        have e6 : getS l 6 2 = (w2 l 6, 0) := getS2 l 6 (by omega)
        have e12 : getS l 12 4 = (65536 * w2 l 12 + w2 l 14, 0) := getS4 l 12 (by omega)
        have e16 : getS l 16 4 = (65536 * w2 l 16 + w2 l 18, 0) := getS4 l 16 (by omega)
        have b4 := w2_bd l hB 4
        have b6 := w2_bd l hB 6
        have b12 := w2_bd l hB 12
        have b14 := w2_bd l hB 14
        have b16 := w2_bd l hB 16
        have b18 := w2_bd l hB 18
        have r6 := hB.at_ 6
        rw [n4, n6, n12, n16, e4, e6, e12, e16]
        simp only [Option.bind_some]
        repeat (rw [if_pos (by omega)])
        rw [u16w, td _ _ (by omega), td _ _ (by omega), tm _ _ (by omega)]
        rw [show w2 l 4 % 65536 = w2 l 4 by omega, show rd l 6 / 64 % 256 % 2 = rd l 6 / 64 % 2 by omega, show rd l 6 / 32 % 256 % 2 = rd l 6 / 32 % 2 by omega, show (65536 * w2 l 12 + w2 l 14) % 4294967296 = 65536 * w2 l 12 + w2 l 14 by omega, show (65536 * w2 l 16 + w2 l 18) % 4294967296 = 65536 * w2 l 16 + w2 l 18 by omega]
  have hj0 : ∀ b : Bool, (b = true ↔ ¬ (t = 3 ∨ t = 11)) → towroperef07_Cause.j0 (k + 8) l b = some (causeS t l) := by
    intro b hb
    simp only [towroperef07_Cause.j0]
    unfold causeS
    by_cases ht : t = 3 ∨ t = 11
    · rw [if_neg (fun x => hb.1 x ht), if_neg (show ¬¬(t = 3 ∨ t = 11) from fun x => x ht)]
      by_cases h28 : (l.length : Int) < 28
      · rw [if_pos h28, if_pos h28]; rfl
      · rw [if_neg h28, if_neg h28, if_pos (by omega)]
        by_cases h1 : rd l 0 < 69
        · rw [if_pos h1]
          exact hj1 true ⟨fun _ => .inl h1, fun _ => rfl⟩ h28
        · rw [if_neg h1]
          exact hj1 _ ⟨fun x => .inr (of_decide_eq_true x), fun x => decide_eq_true (x.resolve_left h1)⟩ h28
    · rw [if_pos (hb.2 ht), if_pos ht]; rfl
  unfold towroperef07_Cause.f
  by_cases h3 : t = 3
  · rw [if_pos h3]
    exact hj0 false (by simp [h3])
  · rw [if_neg h3]
    exact hj0 _ (by simp [h3])
theorem ip_refl (a0 a1 : Int) (a2 a3 : Bool) (a4 a5 a6 a7 a8 : Int) (a9 a10 : List Int) : towroperef06_Same.f a0 a1 a2 a3 a4 a5 a6 a7 a8 a9 a10 a0 a1 a2 a3 a4 a5 a6 a7 a8 a9 a10 = some true := by
  simp [towroperef06_Same.f]
theorem causes_j1 (k : Nat) (t c r : Int) (l : List Int) (h : bytesB l = true) (hl : l.length ≤ 1000) : towropelaw07_IcmpCauses.j1 (k + 9) false t c r l = some true := by
  simp only [towropelaw07_IcmpCauses.j1]
  rw [if_neg (by simp), show k + 8 = k + 3 + 5 by omega, cause_f (k + 3) t c r l h hl, show k + 3 + 5 = k + 8 by omega, refcause_f k t c r l h hl]
  rw [Option.bind_some, Option.bind_some, code_f, Option.bind_some, if_pos rfl, ip_refl, Option.bind_some, if_pos rfl, show k + 8 = k + 3 + 5 by omega, icmp_live, Option.bind_some]
theorem causes_j0 (k : Nat) (a b : Int) (p : List Int) (z : Bool) (t c r : Int) (l : List Int) (h : bytesB l = true) (hp : bytesB p = true) (hz : z = false → l.length ≤ 1000 ∧ p.length ≤ 1000) : towropelaw07_IcmpCauses.j0 (k + 10) a b p z t c r l = some true := by
  have hB : Bytes p := fun x hx => bytesB_mem hp hx
  simp only [towropelaw07_IcmpCauses.j0]
  cases z with
  | true => rw [if_pos rfl, show k + 9 = k + 4 + 5 by omega, icmp_live, Option.bind_some]
  | false =>
    obtain ⟨hl, hpl⟩ := hz rfl
    have hb := about_bd p hB
    have he : icmp_Error.f t c r l = some (decide (t = 3 ∨ t = 11)) := by
      unfold icmp_Error.f
      by_cases h3 : t = 3
      · simp [h3]
      · by_cases h11 : t = 11 <;> simp [h3, h11]
    rw [if_neg (by simp), about_f a b p hB hpl, show k + 9 = k + 8 + 1 by omega, refabout_f (k + 8) p hB hpl, Option.bind_some, Option.bind_some, if_pos hb.1, if_pos hb.2, same_refl, Option.bind_some, if_pos rfl, he, Option.bind_some]
    by_cases h3 : t = 3
    · rw [if_pos h3, show (decide (t = 3 ∨ t = 11) != true) = false by simp [h3]]
      exact causes_j1 k t c r l h hl
    · rw [if_neg h3, show (decide (t = 3 ∨ t = 11) != (t == 11)) = false by by_cases h11 : t = 11 <;> simp [h3, h11]]
      exact causes_j1 k t c r l h hl
theorem IcmpCauses : IcmpCausesSt := by
  intro t c r l a b p _ _ _ _ hw _ _ _ hp
  have h := bytesB_wf hw
  have hp' := bytesB_wf hp
  refine ⟨10, ?_⟩
  unfold towropelaw07_IcmpCauses.f
  split
  · exact causes_j0 0 a b p true t c r l h hp' (by simp)
  · exact causes_j0 0 a b p _ t c r l h hp' (fun hz => ⟨by omega, by have := of_decide_eq_false hz; omega⟩)
end Go.Proofs.Ytdphjljbdodonaa.Pure
