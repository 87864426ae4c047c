/- For all bytes: what goes on of a packet is what the document says, and is right. No conditions. -/
import Derived.Test.YtdphjljbdodonaaPIpLx1
import Derived.Test.YtdphjljbdodonaaPIpLx10
import Derived.Test.YtdphjljbdodonaaPIpLx2
import Derived.Test.YtdphjljbdodonaaPIpLx4
import Derived.Test.YtdphjljbdodonaaPIpLx5
import Derived.Test.YtdphjljbdodonaaPIpLx6
import Derived.Test.YtdphjljbdodonaaPIpLx7
import Derived.Test.YtdphjljbdodonaaPIpLx8
import Derived.Test.YtdphjljbdodonaaPIpLx9
import Derived.Test.YtdphjljbdodonaaAr
import Derived.Test.YtdphjljbdodonaaHSum
namespace Go.Proofs.Ytdphjljbdodonaa.PIpL
open Go.RowKit Go.Proofs.YtdphjljbdodonaaW.PrintWords Go.Proofs.YtdphjljbdodonaaW.PrintLast Go.Proofs.YtdphjljbdodonaaW.PrintMore Go.Proofs.Ytdphjljbdodonaa.Ar Go.Proofs.Ytdphjljbdodonaa.HSum
set_option linter.unusedVariables false
set_option linter.unusedSimpArgs false

theorem bytesB_of {l : List Int} (h : ∀ x ∈ l, 0 ≤ x ∧ x ≤ 255) : bytesB l = true := by
  unfold bytesB
  rw [List.all_eq_true]
  intro x hx
  have := h x hx
  simpa using this
theorem bytesB_wf {l : List Int} (h : ∀ x ∈ l, (Lit.int .u8 x).wf = true) : bytesB l = true := bytesB_of fun x hx => bounds_u8 (h x hx)
theorem bytesB_mem {l : List Int} (h : bytesB l = true) {x : Int} (hx : x ∈ l) : 0 ≤ x ∧ x ≤ 255 := by
  have := List.all_eq_true.1 h x hx
  simpa using this

theorem or_i64 (x b : Int) (x0 : 0 ≤ x) (x1 : x ≤ 255) (b0 : 0 ≤ b) (b1 : b ≤ 255) : Go.bits .or .i64 (x * 256) b = x * 256 + b :=
  bits_join .i64 63 (by decide) (fun n h0 h1 => by rw [IntKind.wrap_i64]; omega) 8 (x * 256) b (by omega) (by omega) (by omega) b0 (by omega) (by omega)

/-- The pair at byte j, as a number. -/
def pair (l : List Int) (j : Nat) : Int := rd l j * 256 + (if j + 1 < l.length then rd l ((j + 1 : Nat) : Int) else 0)
theorem pr_pair {l : List Int} (h : bytesB l = true) (j : Nat) : pr l j = pair l j := by
  unfold pr pair
  have h0 := bytes_rd h (j : Int)
  have h1 := bytes_rd h ((j + 1 : Nat) : Int)
  split
  · exact or_i64 _ _ h0.1 h0.2 h1.1 h1.2
  · omega
theorem pair_bd {l : List Int} (h : bytesB l = true) (j : Nat) : 0 ≤ pair l j ∧ pair l j ≤ 65535 := by
  have h0 := bytes_rd h (j : Int)
  have h1 := bytes_rd h ((j + 1 : Nat) : Int)
  unfold pair
  split <;> omega

theorem refadd_f (a b : Int) : towroperef02_Add.f a b = some (addF a b) := by
  unfold towroperef02_Add.f towroperef02_Low.f
  rw [u64w, u64w, tm _ _ (by omega), tm _ _ (by omega)]
  simp only [Option.bind_some]
  have ea : a % 18446744073709551616 % 65536 = a % 65536 := by omega
  have eb : b % 18446744073709551616 % 65536 = b % 65536 := by omega
  rw [ea, eb, w64 (n := a % 65536) (by omega) (by omega), w64 (n := b % 65536) (by omega) (by omega), w64 (n := a % 65536 + b % 65536) (by omega) (by omega), w64 (by omega) (by omega)]
  unfold addF
  split <;> (congr 1; omega)

theorem refsum_loop (l : List Int) (hl : l.length ≤ 140737488355320) (h : bytesB l = true) : ∀ (d m k : Nat) (acc : Int), m + d = (l.length + 1) / 2 → d < k →
    towroperef02_Sum.l0 k l acc ((2 * m : Nat) : Int) = some (foldW acc ((List.range' m d).map fun k => pr l (2 * k))) := by
  intro d
  induction d with
  | zero =>
    intro m k acc hm hk
    obtain ⟨k, rfl⟩ : ∃ q, k = q + 1 := ⟨k - 1, by omega⟩
    simp only [towroperef02_Sum.l0]
    rw [if_neg (by omega)]
    rfl
  | succ d ih =>
    intro m k acc hm hk
    obtain ⟨k, rfl⟩ : ∃ q, k = q + 1 := ⟨k - 1, by omega⟩
    have h0 := bytes_rd h ((2 * m : Nat) : Int)
    have h1 := bytes_rd h ((2 * m + 1 : Nat) : Int)
    have e2 : wrap64 (((2 * m : Nat) : Int) + 2) = ((2 * (m + 1) : Nat) : Int) := by rw [w64 (by omega) (by omega)]; omega
    have e1 : wrap64 (((2 * m : Nat) : Int) + 1) = ((2 * m + 1 : Nat) : Int) := by rw [w64 (by omega) (by omega)]; omega
    have c1 : ((2 * m : Nat) : Int) < (l.length : Int) := by omega
    have c2 : (0 : Int) ≤ ((2 * m : Nat) : Int) := by omega
    have hp : pr l (2 * m) = rd l ((2 * m : Nat) : Int) * 256 + (if 2 * m + 1 < l.length then rd l ((2 * m + 1 : Nat) : Int) else 0) := pr_pair h (2 * m)
    simp only [towroperef02_Sum.l0]
    rw [if_pos c1, if_pos c2, e1, e2, w64 (n := rd l ((2 * m : Nat) : Int)) (by omega) (by omega), w64 (n := 256 * rd l ((2 * m : Nat) : Int)) (by omega) (by omega), w64 (n := rd l ((2 * m + 1 : Nat) : Int)) (by omega) (by omega),
      w64 (n := 256 * rd l ((2 * m : Nat) : Int) + rd l ((2 * m + 1 : Nat) : Int)) (by omega) (by omega), refadd_f, refadd_f]
    simp only [Option.bind_some, List.range'_succ, List.map_cons]
    have hf : ∀ ps : List Int, foldW acc (pr l (2 * m) :: ps) = foldW (addF acc (pr l (2 * m))) ps := fun ps => rfl
    rw [hf]
    by_cases c : ((2 * m + 1 : Nat) : Int) < (l.length : Int)
    · rw [if_pos c, if_pos (by omega), ih (m + 1) k _ (by omega) (by omega), hp, if_pos (by omega), Int.mul_comm]
    · rw [if_neg c, ih (m + 1) k _ (by omega) (by omega), hp, if_neg (by omega), Int.add_zero, Int.mul_comm]

theorem refsum_f (k : Nat) (l : List Int) (hl : l.length ≤ 140737488355320) (h : bytesB l = true) (hk : l.length + 2 ≤ k) : towroperef02_Sum.f k l = some (sumW l) := by
  unfold towroperef02_Sum.f
  have := refsum_loop l hl h ((l.length + 1) / 2) 0 k 0 (by omega) (by omega)
  rw [show ((2 * 0 : Nat) : Int) = 0 from rfl] at this
  rw [this]
  unfold sumW HSum.all pre
  rw [List.range_eq_range']

def norm (t : Int) : Int := if t = 0 then 0 else (t - 1) % 65535 + 1
theorem norm_add (t p : Int) (ht : 0 ≤ t) (p0 : 0 ≤ p) (p1 : p ≤ 65535) : addF (norm t) p = norm (t + p) := by
  unfold norm addF
  repeat' split
  all_goals omega
theorem foldW_norm (ps : List Int) (h : ∀ p ∈ ps, 0 ≤ p ∧ p ≤ 65535) : ∀ t : Int, 0 ≤ t → foldW (norm t) ps = norm (t + ps.sum) := by
  induction ps with
  | nil => intro t _; simp [foldW]
  | cons p ps ih =>
    intro t ht
    have hp := h p List.mem_cons_self
    have hc : foldW (norm t) (p :: ps) = foldW (addF (norm t) p) ps := rfl
    rw [hc, norm_add t p ht hp.1 hp.2, ih (fun q hq => h q (List.mem_cons_of_mem _ hq)) (t + p) (by omega), List.sum_cons, Int.add_assoc]

theorem all_bd {l : List Int} (h : bytesB l = true) : ∀ p ∈ HSum.all l, 0 ≤ p ∧ p ≤ 65535 := by
  intro p hp
  unfold HSum.all pre at hp
  obtain ⟨k, _, rfl⟩ := List.mem_map.1 hp
  rw [pr_pair h]
  exact pair_bd h _
theorem sum_nonneg (ps : List Int) (h : ∀ p ∈ ps, 0 ≤ p ∧ p ≤ 65535) : 0 ≤ ps.sum := by
  induction ps with
  | nil => simp
  | cons p ps ih =>
    rw [List.sum_cons]
    have := h p List.mem_cons_self
    have := ih (fun q hq => h q (List.mem_cons_of_mem _ hq))
    omega
theorem sumW_norm {l : List Int} (h : bytesB l = true) : sumW l = norm (HSum.all l).sum := by
  unfold sumW
  have := foldW_norm (HSum.all l) (all_bd h) 0 (by omega)
  rw [show norm 0 = 0 from rfl, Int.zero_add] at this
  exact this
theorem all_nonneg {l : List Int} (h : bytesB l = true) : 0 ≤ (HSum.all l).sum := sum_nonneg _ (all_bd h)
end Go.Proofs.Ytdphjljbdodonaa.PIpL
namespace Go.Proofs.Ytdphjljbdodonaa.PIpL
open Go.RowKit Go.Proofs.YtdphjljbdodonaaW.PrintWords Go.Proofs.YtdphjljbdodonaaW.PrintLast Go.Proofs.YtdphjljbdodonaaW.PrintMore Go.Proofs.Ytdphjljbdodonaa.Ar Go.Proofs.Ytdphjljbdodonaa.HSum
set_option linter.unusedVariables false
set_option linter.unusedSimpArgs false

def tt : List Int → Int
  | a :: b :: t => a * 256 + b + tt t
  | [a] => a * 256
  | [] => 0

theorem rd_two (a b : Int) (t : List Int) (j : Nat) : rd (a :: b :: t) ((j + 2 : Nat) : Int) = rd t j := by
  unfold rd
  simp only [Int.toNat_natCast]
  rfl
theorem pair_two (a b : Int) (t : List Int) (j : Nat) : pair (a :: b :: t) (j + 2) = pair t j := by
  unfold pair
  rw [rd_two, show j + 2 + 1 = (j + 1) + 2 from rfl, rd_two]
  simp only [List.length_cons]
  congr 1
  by_cases h : j + 1 < t.length
  · rw [if_pos h, if_pos (by omega)]
  · rw [if_neg h, if_neg (by omega)]
theorem bytesB_cons {a : Int} {t : List Int} (h : bytesB (a :: t) = true) : (0 ≤ a ∧ a ≤ 255) ∧ bytesB t = true :=
  ⟨bytesB_mem h List.mem_cons_self, bytesB_of fun _ hx => bytesB_mem h (List.mem_cons_of_mem _ hx)⟩
theorem all_tt : ∀ l : List Int, bytesB l = true → (HSum.all l).sum = tt l
  | [], _ => rfl
  | [a], h => by
    unfold HSum.all pre
    simp only [List.length_cons, List.length_nil]
    rw [show (0 + 1 + 1) / 2 = 1 from rfl, List.range_one, List.map_cons, List.map_nil, List.sum_cons, List.sum_nil, pr_pair h]
    unfold pair tt rd
    simp
  | a :: b :: t, h => by
    have h2 := (bytesB_cons (bytesB_cons h).2).2
    have ih := all_tt t h2
    unfold HSum.all pre at ih ⊢
    simp only [List.length_cons]
    rw [show (t.length + 1 + 1 + 1) / 2 = (t.length + 1) / 2 + 1 by omega, List.range_succ_eq_map, List.map_cons, List.sum_cons, List.map_map]
    have e : (List.map ((fun k => pr (a :: b :: t) (2 * k)) ∘ Nat.succ) (List.range ((t.length + 1) / 2))) = List.map (fun k => pr t (2 * k)) (List.range ((t.length + 1) / 2)) := by
      refine List.map_congr_left fun k _ => ?_
      show pr (a :: b :: t) (2 * (k + 1)) = pr t (2 * k)
      rw [pr_pair h, pr_pair h2, show 2 * (k + 1) = 2 * k + 2 by omega, pair_two]
    rw [e, ih, pr_pair h]
    have e0 : pair (a :: b :: t) (2 * 0) = a * 256 + b := by
      unfold pair rd
      simp
    rw [e0]
    rfl

theorem sumW_tt {l : List Int} (h : bytesB l = true) : sumW l = norm (tt l) := by rw [sumW_norm h, all_tt l h]
theorem tt_nonneg {l : List Int} (h : bytesB l = true) : 0 ≤ tt l := by rw [← all_tt l h]; exact all_nonneg h

theorem tt_set : ∀ (m : Nat) (l : List Int) (a b : Int), 2 * m + 1 < l.length → tt ((l.set (2 * m) a).set (2 * m + 1) b) = tt l - (rd l ((2 * m : Nat) : Int) * 256 + rd l ((2 * m + 1 : Nat) : Int)) + (a * 256 + b)
  | 0, x :: y :: t, a, b, _ => by
    simp only [Nat.mul_zero, Nat.zero_add, List.set_cons_zero, List.set_cons_succ, tt]
    unfold rd
    simp
    omega
  | m + 1, x :: y :: t, a, b, h => by
    have ih := tt_set m t a b (by simp only [List.length_cons] at h; omega)
    rw [show 2 * (m + 1) = 2 * m + 2 by omega, show 2 * m + 2 + 1 = (2 * m + 1) + 2 by omega, rd_two, rd_two]
    simp only [List.set_cons_succ, tt]
    rw [ih]
    omega
  | _, [], _, _, h => by simp at h
  | _, [_], _, _, h => by simp at h

def twoS (n : Int) : List Int := [n % 65536 / 256, n % 256]
end Go.Proofs.Ytdphjljbdodonaa.PIpL
namespace Go.Proofs.Ytdphjljbdodonaa.PIpL
open Go.RowKit Go.Proofs.YtdphjljbdodonaaW.PrintWords Go.Proofs.YtdphjljbdodonaaW.PrintLast Go.Proofs.YtdphjljbdodonaaW.PrintMore Go.Proofs.Ytdphjljbdodonaa.Ar Go.Proofs.Ytdphjljbdodonaa.HSum
set_option linter.unusedVariables false
set_option linter.unusedSimpArgs false

theorem put_step (k : Nat) (x m n i sh i1 : Int) (l : List Int) (hi : i < n) (hsh : wrap64 (8 * wrap64 (wrap64 (m - 1) - i)) = sh) (hs : 0 ≤ sh) (hl : l.length < 140737488355328) (h1 : wrap64 (i + 1) = i1) :
    octet_put.l0 (k + 1) x m l n i = octet_put.l0 k x m (l ++ [(shr .u64 x sh) % 256]) n i1 := by
  simp only [octet_put.l0]
  rw [if_pos hi, hsh, if_pos hs, if_pos hl, h1]
theorem put_end (k : Nat) (x m n i : Int) (l : List Int) (hi : ¬ i < n) : octet_put.l0 (k + 1) x m l n i = some l := by
  simp only [octet_put.l0]
  rw [if_neg hi]
theorem shr0 (x : Int) : shr .u64 x 0 = x := by
  unfold shr
  rw [show (2 : Int) ^ min (Int.toNat 0) IntKind.u64.bits = 1 by decide +kernel]
  omega
theorem shr8 (x : Int) : shr .u64 x 8 = x / 256 := by
  unfold shr
  rw [show (2 : Int) ^ min (Int.toNat 8) IntKind.u64.bits = 256 by decide +kernel]
theorem clone_f (l : List Int) (hl : l.length < 140737488355328) : slices_Clone_byte_byte.f l = some l := by
  unfold slices_Clone_byte_byte.f
  rw [if_pos hl]

theorem put2_f (k : Nat) (l : List Int) (x : Int) (hl : l.length + 2 ≤ 140737488355328) : octet_put.f (k + 3) l x 2 = some (l ++ [x / 256 % 256, x % 256]) := by
  unfold octet_put.f
  rw [clone_f l (by omega)]
  simp only [Option.bind_some]
  rw [put_step (k + 2) x 2 2 0 8 1 l (by decide) (by decide +kernel) (by decide) (by omega) (by decide +kernel),
    put_step (k + 1) x 2 2 1 0 2 _ (by decide) (by decide +kernel) (by decide) (by simp; omega) (by decide +kernel), put_end k x 2 2 2 _ (by decide), shr8, shr0]
  simp
theorem put16_f (k : Nat) (l : List Int) (n : Int) (hl : l.length + 2 ≤ 140737488355328) : octet_Put16.f (k + 3) l n = some (l ++ twoS n) := by
  unfold octet_Put16.f
  rw [u16w, u64w, show n % 65536 % 18446744073709551616 = n % 65536 by omega, put2_f k l _ hl]
  simp only [Option.bind_some]
  unfold twoS
  rw [show n % 65536 / 256 % 256 = n % 65536 / 256 by omega, show n % 65536 % 256 = n % 256 by omega]
end Go.Proofs.Ytdphjljbdodonaa.PIpL
namespace Go.Proofs.Ytdphjljbdodonaa.PIpL
open Go.RowKit Go.Proofs.YtdphjljbdodonaaW.PrintWords Go.Proofs.YtdphjljbdodonaaW.PrintLast Go.Proofs.YtdphjljbdodonaaW.PrintMore Go.Proofs.Ytdphjljbdodonaa.Ar Go.Proofs.Ytdphjljbdodonaa.HSum
set_option linter.unusedVariables false
set_option linter.unusedSimpArgs false

def Bytes (l : List Int) : Prop := ∀ x ∈ l, 0 ≤ x ∧ x ≤ 255
theorem Bytes.at_ {l : List Int} (h : Bytes l) (i : Int) : 0 ≤ rd l i ∧ rd l i ≤ 255 := by
  unfold rd
  rw [List.getD_eq_getElem?_getD]
  rcases Nat.lt_or_ge i.toNat l.length with hi | hi
  · rw [List.getElem?_eq_getElem hi]
    exact h _ (List.getElem_mem hi)
  · rw [List.getElem?_eq_none hi]
    simp

/-- The bytes from a place on, or the error's number. -/
def viewS (l : List Int) (at_ n : Int) : List Int × Int :=
  if at_ < 0 ∨ at_ > l.length then ([], 8) else if n < 0 then ([], 1) else if n > l.length - at_ then ([], 2) else ((l.take (at_ + n).toNat).drop at_.toNat, 0)

theorem view_f (k : Nat) (l : List Int) (i n : Int) (hl : l.length ≤ 140737488351232) (i0 : -9223372036854775808 ≤ i) (i1 : i ≤ 9223372036854775807) (n0 : -9223372036854775808 ≤ n) (n1 : n ≤ 9223372036854775807) :
    octet_view.f (k + 1) l i n = some (viewS l i n) := by
  have hj : ∀ b : Bool, (b = true ↔ (i < 0 ∨ i > l.length)) → octet_view.j0 (k + 1) l i n b = some (viewS l i n) := by
    intro b hb
    simp only [octet_view.j0]
    unfold viewS
    by_cases h : i < 0 ∨ i > l.length
    · rw [if_pos (hb.2 h), if_pos h]
    · rw [if_neg (fun hh => h (hb.1 hh)), if_neg h, w64 (n := (l.length : Int) - i) (by omega) (by omega)]
      by_cases h1 : n < 0
      · rw [if_pos h1, if_pos h1]
      · rw [if_neg h1, if_neg h1]
        by_cases h2 : n > l.length - i
        · rw [if_pos h2, if_pos h2]
        · rw [if_neg h2, if_neg h2, w64 (n := i + n) (by omega) (by omega), if_pos (by omega), if_pos (by omega), if_pos (by omega)]
  unfold octet_view.f
  split
  · rename_i h
    exact hj true ⟨fun _ => .inl h, fun _ => rfl⟩
  · rename_i h
    exact hj _ ⟨fun hh => .inr (of_decide_eq_true hh), fun hh => decide_eq_true (hh.resolve_left h)⟩

theorem viewS_bytes {l : List Int} (h : Bytes l) (i n : Int) : Bytes (viewS l i n).1 := by
  unfold viewS
  repeat' split
  all_goals first | (intro x hx; cases hx) | (intro x hx; exact h x (List.mem_of_mem_take (List.mem_of_mem_drop hx)))

/-! ### numbers read -/
theorem or8 (x b : Int) (x0 : 0 ≤ x) (x1 : x ≤ 16777215) (b0 : 0 ≤ b) (b1 : b ≤ 255) : Go.bits .or .u64 (IntKind.u64.wrap (x * 256)) (IntKind.u64.wrap b) = x * 256 + b := by
  rw [u64w, u64w, show (x * 256) % 18446744073709551616 = x * 256 by omega, show b % 18446744073709551616 = b by omega]
  exact bits_join .u64 64 (by decide) (fun n h0 h1 => by rw [u64w]; omega) 8 (x * 256) b (by omega) (by omega) (by omega) b0 (by omega) (by omega)

/-- 256 n + b, byte by byte. -/
def numF (n : Int) (l : List Int) : Int := l.foldl (fun n b => 256 * n + b) n
def getS (l : List Int) (i n : Int) : Int × Int := (numF 0 (viewS l i n).1, (viewS l i n).2)

theorem numF_bd (l : List Int) (h : Bytes l) : ∀ n : Int, 0 ≤ n → 0 ≤ numF n l ∧ numF n l < (n + 1) * 256 ^ l.length := by
  induction l with
  | nil => intro n h0; simp [numF]; omega
  | cons b l ih =>
    intro n h0
    have hb := h b List.mem_cons_self
    obtain ⟨h1, h2⟩ := ih (fun x hx => h x (List.mem_cons_of_mem _ hx)) (256 * n + b) (by omega)
    refine ⟨h1, Int.lt_of_lt_of_le h2 ?_⟩
    have hp : (0 : Int) ≤ 256 ^ l.length := Int.pow_nonneg (by decide)
    have : (256 * n + b + 1) * 256 ^ l.length ≤ ((n + 1) * 256) * 256 ^ l.length := Int.mul_le_mul_of_nonneg_right (by omega) hp
    rw [List.length_cons, Int.pow_succ, Int.mul_comm (256 ^ l.length) 256, ← Int.mul_assoc]
    exact this

theorem drop_cons (l : List Int) (i : Nat) (h : i < l.length) : l.drop i = rd l i :: l.drop (i + 1) := by
  rw [List.drop_eq_getElem_cons h]
  congr 1
  unfold rd
  rw [Int.toNat_natCast, List.getD_eq_getElem?_getD, List.getElem?_eq_getElem h]
  rfl

theorem get_loop (e : Int) (v : List Int) (hv : Bytes v) (hl : v.length ≤ 4) : ∀ (d i k : Nat) (acc : Int), i + d = v.length → d < k → 0 ≤ acc → acc < 256 ^ i → octet_get.l0 k e acc v v.length i = some (numF acc (v.drop i), e) := by
  intro d
  induction d with
  | zero =>
    intro i k acc hi hk _ _
    obtain ⟨k, rfl⟩ : ∃ m, k = m + 1 := ⟨k - 1, by omega⟩
    simp only [octet_get.l0]
    rw [if_neg (by omega), List.drop_of_length_le (by omega)]
    rfl
  | succ d ih =>
    intro i k acc hi hk h0 h1
    obtain ⟨k, rfl⟩ : ∃ m, k = m + 1 := ⟨k - 1, by omega⟩
    have hr := hv.at_ (i : Int)
    have hp : (256 : Int) ^ i ≤ 16777216 := by
      have : i ≤ 3 := by omega
      rcases (by omega : i = 0 ∨ i = 1 ∨ i = 2 ∨ i = 3) with rfl | rfl | rfl | rfl <;> decide
    simp only [octet_get.l0]
    rw [if_pos (by omega), if_pos (by omega), if_pos (by omega), or8 _ _ h0 (by omega) hr.1 hr.2, w64 (by omega) (by omega)]
    have := ih (i + 1) k (acc * 256 + rd v i) (by omega) (by omega) (by omega) (by rw [Int.pow_succ]; omega)
    rw [show ((i : Int) + 1) = ((i + 1 : Nat) : Int) from rfl, this, drop_cons v i (by omega)]
    simp only [numF, List.foldl_cons]
    rw [Int.mul_comm]

theorem viewS_four (l : List Int) (i n : Int) (h : n ≤ 4) : (viewS l i n).1.length ≤ 4 := by
  unfold viewS
  repeat' split
  all_goals simp
  all_goals omega

theorem get_f (k : Nat) (l : List Int) (i n : Int) (hB : Bytes l) (hl : l.length ≤ 140737488351232) (i0 : -9223372036854775808 ≤ i) (i1 : i ≤ 9223372036854775807) (n0 : 0 ≤ n) (n1 : n ≤ 4) :
    octet_get.f (k + 5) l i n = some (getS l i n) := by
  unfold octet_get.f
  rw [view_f (k + 4) l i n hl i0 i1 (by omega) (by omega)]
  simp only [Option.bind_some]
  have h4 := viewS_four l i n n1
  have := get_loop (viewS l i n).2 (viewS l i n).1 (viewS_bytes hB i n) h4 (viewS l i n).1.length 0 (k + 5) 0 (by omega) (by omega) (by omega) (by simp)
  rw [List.drop_zero] at this
  exact this

theorem getS_bd (l : List Int) (hB : Bytes l) (i n : Int) : 0 ≤ (getS l i n).1 ∧ (getS l i n).1 < 256 ^ (viewS l i n).1.length := by
  have := numF_bd _ (viewS_bytes hB i n) 0 (by omega)
  rw [Int.zero_add, Int.one_mul] at this
  exact this
theorem viewS_len_n (l : List Int) (i n : Int) (h : 0 ≤ n) : (viewS l i n).1.length ≤ n.toNat := by
  unfold viewS
  repeat' split
  all_goals simp
  all_goals omega
theorem pow_le256 {a b : Nat} (h : a ≤ b) : (256 : Int) ^ a ≤ 256 ^ b := by
  have e : ∀ c : Nat, ((256 ^ c : Nat) : Int) = (256 : Int) ^ c := fun c => Int.natCast_pow 256 c
  rw [← e, ← e]
  exact Int.ofNat_le.2 (Nat.pow_le_pow_right (by decide) h)

theorem get16_f (k : Nat) (l : List Int) (i : Int) (hB : Bytes l) (hl : l.length ≤ 140737488351232) (i0 : -9223372036854775808 ≤ i) (i1 : i ≤ 9223372036854775807) :
    octet_Get16.f (k + 5) l i = some (getS l i 2) := by
  unfold octet_Get16.f
  rw [get_f k l i 2 hB hl i0 i1 (by omega) (by omega)]
  simp only [Option.bind_some]
  have := getS_bd l hB i 2
  have h2 := pow_le256 (viewS_len_n l i 2 (by omega))
  rw [w64 (by omega) (by have : (256 : Int) ^ (2 : Int).toNat = 65536 := by decide
                         omega)]
theorem get32_f (k : Nat) (l : List Int) (i : Int) (hB : Bytes l) (hl : l.length ≤ 140737488351232) (i0 : -9223372036854775808 ≤ i) (i1 : i ≤ 9223372036854775807) :
    octet_Get32.f (k + 5) l i = some (getS l i 4) := by
  unfold octet_Get32.f
  rw [get_f k l i 4 hB hl i0 i1 (by omega) (by omega)]
  simp only [Option.bind_some]
  have := getS_bd l hB i 4
  have h2 := pow_le256 (viewS_len_n l i 4 (by omega))
  have h3 : (256 : Int) ^ (4 : Int).toNat = 4294967296 := by decide
  rw [show (getS l i 4).1 % 4294967296 = (getS l i 4).1 by omega]

/-! ### the reference's number -/
theorem rd_view (l : List Int) (i n j : Nat) (h : i + n ≤ l.length) (hj : j < n) : rd ((l.take (i + n)).drop i) j = rd l ((i + j : Nat) : Int) := by
  unfold rd
  simp only [Int.toNat_natCast]
  rw [List.getD_eq_getElem?_getD, List.getD_eq_getElem?_getD, List.getElem?_drop, List.getElem?_take, if_pos (by omega)]

theorem getS_four (l : List Int) (i n : Nat) (h : i + n ≤ l.length) : getS l i n = (numF 0 ((l.take (i + n)).drop i), 0) := by
  unfold getS viewS
  rw [if_neg (by omega), if_neg (by omega), if_neg (by omega)]
  rfl
/-- Two bytes as a number. -/
def w2 (l : List Int) (i : Int) : Int := 256 * rd l i + rd l (i + 1)
theorem view_two (l : List Int) (i : Nat) (h : i + 2 ≤ l.length) : (l.take (i + 2)).drop i = [rd l i, rd l ((i + 1 : Nat) : Int)] := by
  have hv : ((l.take (i + 2)).drop i).length = 2 := by rw [List.length_drop, List.length_take]; omega
  have h0 := rd_view l i 2 0 h (by omega)
  have h1 := rd_view l i 2 1 h (by omega)
  generalize (l.take (i + 2)).drop i = v at *
  match v, hv with
  | [a, b], _ =>
    have e0 : a = rd l ((i + 0 : Nat) : Int) := h0
    have e1 : b = rd l ((i + 1 : Nat) : Int) := h1
    rw [e0, e1]
    rfl
theorem view_four (l : List Int) (i : Nat) (h : i + 4 ≤ l.length) : (l.take (i + 4)).drop i = [rd l i, rd l ((i + 1 : Nat) : Int), rd l ((i + 2 : Nat) : Int), rd l ((i + 3 : Nat) : Int)] := by
  have hv : ((l.take (i + 4)).drop i).length = 4 := by rw [List.length_drop, List.length_take]; omega
  have h0 := rd_view l i 4 0 h (by omega)
  have h1 := rd_view l i 4 1 h (by omega)
  have h2 := rd_view l i 4 2 h (by omega)
  have h3 := rd_view l i 4 3 h (by omega)
  generalize (l.take (i + 4)).drop i = v at *
  match v, hv with
  | [a, b, c, d], _ =>
    have e0 : a = rd l ((i + 0 : Nat) : Int) := h0
    have e1 : b = rd l ((i + 1 : Nat) : Int) := h1
    have e2 : c = rd l ((i + 2 : Nat) : Int) := h2
    have e3 : d = rd l ((i + 3 : Nat) : Int) := h3
    rw [e0, e1, e2, e3]
    rfl
theorem getS2 (l : List Int) (i : Nat) (h : i + 2 ≤ l.length) : getS l i 2 = (w2 l i, 0) := by
  rw [show (2 : Int) = ((2 : Nat) : Int) from rfl, getS_four l i 2 h, view_two l i h]
  unfold numF w2
  simp only [List.foldl_cons, List.foldl_nil]
  rw [show ((i : Int) + 1) = ((i + 1 : Nat) : Int) by omega, show 256 * (256 * 0 + rd l i) = 256 * rd l i by omega]
theorem getS4 (l : List Int) (i : Nat) (h : i + 4 ≤ l.length) : getS l i 4 = (65536 * w2 l i + w2 l ((i + 2 : Nat) : Int), 0) := by
  rw [show (4 : Int) = ((4 : Nat) : Int) from rfl, getS_four l i 4 h, view_four l i h]
  unfold numF w2
  simp only [List.foldl_cons, List.foldl_nil]
  rw [show ((i : Int) + 1) = ((i + 1 : Nat) : Int) by omega, show (((i + 2 : Nat) : Int) + 1) = ((i + 3 : Nat) : Int) by omega]
  congr 1
  omega
theorem w2_bd (l : List Int) (hB : Bytes l) (i : Int) : 0 ≤ w2 l i ∧ w2 l i ≤ 65535 := by
  have := hB.at_ i
  have := hB.at_ (i + 1)
  unfold w2
  omega
end Go.Proofs.Ytdphjljbdodonaa.PIpL
namespace Go.Proofs.Ytdphjljbdodonaa.PIpL
open Go.RowKit Go.Proofs.Ytdphjljbdodonaa.PIpL Go.Proofs.YtdphjljbdodonaaW.PrintWords Go.Proofs.YtdphjljbdodonaaW.PrintLast Go.Proofs.YtdphjljbdodonaaW.PrintMore Go.Proofs.Ytdphjljbdodonaa.Ar Go.Proofs.Ytdphjljbdodonaa.HSum Go.Proofs.Ytdphjljbdodonaa.HExt
set_option linter.unusedVariables false
set_option linter.unusedSimpArgs false

theorem ip_live : ∀ k, towropelaw06_live.f (k + 10) = some true := by
  intro k
  induction k with
  | zero => decide +kernel
  | succ k ih => exact towropelaw06_live.mono (k + 10) true ih
theorem ipcode_f (x : Int) : towropelaw06_code.f x = some x := rfl
theorem ipsame_refl (a0 a1 : Int) (a2 a3 : Bool) (a4 a5 a6 a7 a8 : Int) (a9 a10 : List Int) : towroperef06_Same.f a0 a1 a2 a3 a4 a5 a6 a7 a8 a9 a10 a0 a1 a2 a3 a4 a5 a6 a7 a8 a9 a10 = some true := by
  simp [towroperef06_Same.f]
end Go.Proofs.Ytdphjljbdodonaa.PIpL
namespace Go.Proofs.Ytdphjljbdodonaa.PIpL
open Go.RowKit Go.Proofs.YtdphjljbdodonaaW.PrintWords Go.Proofs.YtdphjljbdodonaaW.PrintLast Go.Proofs.YtdphjljbdodonaaW.PrintMore Go.Proofs.Ytdphjljbdodonaa.Ar Go.Proofs.Ytdphjljbdodonaa.HSum
set_option linter.unusedVariables false
set_option linter.unusedSimpArgs false
theorem right_f (l : List Int) (hl : l.length ≤ 140737488355320) (h : bytesB l = true) : sum_Right.f l = some (sumW l == 65535) := by
  unfold sum_Right.f sum_Sum.f
  rw [if_pos ⟨h, by omega⟩]
  rfl
end Go.Proofs.Ytdphjljbdodonaa.PIpL
namespace Go.Proofs.Ytdphjljbdodonaa.PIpL
open Go.RowKit Go.Proofs.Ytdphjljbdodonaa.PIpL Go.Proofs.YtdphjljbdodonaaW.PrintWords Go.Proofs.YtdphjljbdodonaaW.PrintLast Go.Proofs.YtdphjljbdodonaaW.PrintMore Go.Proofs.Ytdphjljbdodonaa.Ar Go.Proofs.Ytdphjljbdodonaa.HSum Go.Proofs.Ytdphjljbdodonaa.HExt
set_option linter.unusedVariables false
set_option linter.unusedSimpArgs false

theorem i64_pow (i : Nat) (x : Int) (x0 : 0 ≤ x ∧ x ≤ 65535) (hi : i ≤ 15) : Go.bits .and .i64 x ((2 ^ i : Nat) : Int) = (x / ((2 ^ i : Nat) : Int) % 2) * ((2 ^ i : Nat) : Int) := by
  obtain ⟨a, rfl⟩ : ∃ a : Nat, x = a := ⟨x.toNat, by omega⟩
  have ha : a < 2 ^ 16 := by omega
  have hp : 2 ^ i < 2 ^ 16 := Nat.pow_lt_pow_right (by decide) (by omega)
  have := (bits_nat .i64 16 (by decide) (fun n h0 h1 => by rw [IntKind.wrap_i64]; omega) a (2 ^ i) ha hp).1
  have hand : a &&& 2 ^ i = (a / 2 ^ i % 2) * 2 ^ i := by
    apply Nat.eq_of_testBit_eq
    intro j
    rw [Nat.testBit_and, Nat.testBit_two_pow]
    have hm : a / 2 ^ i % 2 = 0 ∨ a / 2 ^ i % 2 = 1 := by omega
    have hb : Nat.testBit a i = decide (a / 2 ^ i % 2 = 1) := Nat.testBit_eq_decide_div_mod_eq
    rcases hm with h | h
    · rw [h, Nat.zero_mul, Nat.zero_testBit]
      by_cases hij : i = j
      · subst hij
        rw [hb, h]
        rfl
      · rw [decide_eq_false hij, Bool.and_false]
    · rw [h, Nat.one_mul, Nat.testBit_two_pow]
      by_cases hij : i = j
      · subst hij
        rw [hb, h]
        rfl
      · rw [decide_eq_false hij, Bool.and_false]
  rw [this, hand]
  have hm : a / 2 ^ i % 2 = 0 ∨ a / 2 ^ i % 2 = 1 := by omega
  have hc : ((a : Int) / ((2 ^ i : Nat) : Int) % 2) = ((a / 2 ^ i % 2 : Nat) : Int) := by simp
  rw [hc]
  rcases hm with h | h <;> rw [h] <;> simp
theorem and_whole (x : Int) (x0 : 0 ≤ x ∧ x ≤ 65535) : Go.bits .and .i64 x 16384 = (x / 16384 % 2) * 16384 := i64_pow 14 x x0 (by decide)
theorem and_more (x : Int) (x0 : 0 ≤ x ∧ x ≤ 65535) : Go.bits .and .i64 x 8192 = (x / 8192 % 2) * 8192 := i64_pow 13 x x0 (by decide)
theorem and_spare (x : Int) (x0 : 0 ≤ x ∧ x ≤ 65535) : Go.bits .and .i64 x 32768 = (x / 32768 % 2) * 32768 := i64_pow 15 x x0 (by decide)
theorem and_off (x : Int) (x0 : 0 ≤ x ∧ x ≤ 65535) : Go.bits .and .i64 x 8191 = x % 8192 :=
  bits_mask .i64 16 (by decide) (fun n h0 h1 => by rw [IntKind.wrap_i64]; omega) 13 (by decide) x x0.1 (by omega)

abbrev IpR := Int × Int × Bool × Bool × Int × Int × Int × Int × Int × List Int × List Int × Int
def noIp (e : Int) : IpR := (0, 0, false, false, 0, 0, 0, 0, 0, [], [], e)
/-- What is got from bytes, told as the reference tells it. -/
def topS (l : List Int) : Int := 4 * (rd l 0 - 64)
def getIp (l : List Int) : IpR :=
  if (l.length : Int) < 20 then noIp 2 else if rd l 0 < 69 ∨ rd l 0 > 79 then noIp 3 else if (l.length : Int) < topS l then noIp 2 else if sumW (l.take (topS l).toNat) ≠ 65535 then noIp 4
  else if w2 l 2 < topS l ∨ rd l 6 ≥ 128 then noIp 3 else if (l.length : Int) < w2 l 2 then noIp 2
  else (rd l 1, w2 l 4, rd l 6 / 64 % 2 == 1, rd l 6 / 32 % 2 == 1, w2 l 6 % 8192, rd l 8, rd l 9, 65536 * w2 l 12 + w2 l 14, 65536 * w2 l 16 + w2 l 18, (l.take (topS l).toNat).drop 20, (l.take (w2 l 2).toNat).drop (topS l).toNat, 0)
theorem take_bytes {l : List Int} (h : bytesB l = true) (n : Nat) : bytesB (l.take n) = true := bytesB_of fun _ hx => bytesB_mem h (List.mem_of_mem_take hx)

/-- What 'size' tells: the head's length, the length, the error. -/
def sizeS (l : List Int) : Int × Int × Int :=
  if (l.length : Int) < 20 then (0, 0, 2) else if rd l 0 < 69 ∨ rd l 0 > 79 then (0, 0, 3) else if (l.length : Int) < topS l then (0, 0, 2) else if sumW (l.take (topS l).toNat) ≠ 65535 then (0, 0, 4)
  else if w2 l 2 < topS l ∨ rd l 6 ≥ 128 then (0, 0, 3) else if (l.length : Int) < w2 l 2 then (0, 0, 2) else (topS l, w2 l 2, 0)
theorem size_f (k : Nat) (l : List Int) (h : bytesB l = true) (hl : l.length ≤ 70000) : ip_size.f (k + 7) l = some (sizeS l) := by
  have hB : Bytes l := fun x hx => bytesB_mem h hx
  have r0 := hB.at_ 0
  have hj : ∀ b : Bool, (b = true ↔ rd l 0 < 69 ∨ rd l 0 > 79) → ¬ (l.length : Int) < 20 → ip_size.j0 (k + 7) l b = some (sizeS l) := by
    intro b hb h20
    simp only [ip_size.j0]
    unfold sizeS
    rw [if_neg h20]
    by_cases hf : rd l 0 < 69 ∨ rd l 0 > 79
    · rw [if_pos (hb.2 hf), if_pos hf]
    · rw [if_neg (fun x => hf (hb.1 x)), if_neg hf, if_pos (by omega), show Go.bits .and .u8 (rd l 0) 15 = rd l 0 % 16 from u8_and15 _ (by omega) (by omega), w64 (n := rd l 0 % 16) (by omega) (by omega), w64 (n := 4 * (rd l 0 % 16)) (by omega) (by omega)]
      have ht : 4 * (rd l 0 % 16) = topS l := by unfold topS; omega
      rw [ht]
      have t0 : 20 ≤ topS l ∧ topS l ≤ 60 := by unfold topS; omega
      by_cases h2 : (l.length : Int) < topS l
      · rw [if_pos h2, if_pos h2]
      · rw [if_neg h2, if_neg h2, if_pos (by omega), if_pos (by omega), right_f _ (by rw [List.length_take]; omega) (take_bytes h _)]
        simp only [Option.bind_some]
        by_cases hs : sumW (l.take (topS l).toNat) = 65535
        · have g2 := get16_f (k + 1) l 2 hB (by omega) (by omega) (by omega)
          have g6 := get16_f (k + 1) l 6 hB (by omega) (by omega) (by omega)
          have e2 : getS l 2 2 = (w2 l 2, 0) := getS2 l 2 (by omega)
          have e6 : getS l 6 2 = (w2 l 6, 0) := getS2 l 6 (by omega)
          have b6 := w2_bd l hB 6
          rw [if_pos (by simpa using hs), if_neg (by simpa using hs), show k + 6 = k + 1 + 5 by omega, g2, g6, e2, e6]
          simp only [Option.bind_some, and_spare _ b6]
          have r6 := hB.at_ 6
          have r7 := hB.at_ 7
          have e7 : w2 l 6 = 256 * rd l 6 + rd l 7 := rfl
          by_cases ha : w2 l 2 < topS l
          · rw [if_pos ha, if_pos (.inl ha)]
            simp only [ip_size.j1, if_true]
          · rw [if_neg ha]
            by_cases h6 : rd l 6 ≥ 128
            · rw [if_pos (.inr h6), show (w2 l 6 / 32768 % 2 * 32768 != 0) = true by rw [bne_iff_ne]; omega]
              simp only [ip_size.j1, if_true]
            · rw [if_neg (by omega), show (w2 l 6 / 32768 % 2 * 32768 != 0) = false by rw [bne_eq_false_iff_eq]; omega]
              simp only [ip_size.j1]
              rw [if_neg (by simp)]
              split <;> rfl
        · rw [if_neg (by simpa using hs), if_pos (by simpa using hs)]
  unfold ip_size.f
  by_cases h20 : (l.length : Int) < 20
  · rw [if_pos h20]
    unfold sizeS
    rw [if_pos h20]
  · rw [if_neg h20, if_pos (by omega)]
    by_cases h1 : rd l 0 < 69
    · rw [if_pos h1]
      exact hj true ⟨fun _ => .inl h1, fun _ => rfl⟩ h20
    · rw [if_neg h1]
      exact hj _ ⟨fun x => .inr (of_decide_eq_true x), fun x => decide_eq_true (x.resolve_left h1)⟩ h20

theorem ipget_f (k : Nat) (l : List Int) (h : bytesB l = true) (hl : l.length ≤ 70000) : ip_Get.f (k + 7) l = some (getIp l) := by
  have hB : Bytes l := fun x hx => bytesB_mem h hx
  unfold ip_Get.f
  rw [size_f k l h hl]
  simp only [Option.bind_some]
  unfold sizeS getIp
  by_cases h20 : (l.length : Int) < 20
  · rw [if_pos h20, if_pos h20]; rfl
  rw [if_neg h20, if_neg h20]
  by_cases hf : rd l 0 < 69 ∨ rd l 0 > 79
  · rw [if_pos hf, if_pos hf]; rfl
  rw [if_neg hf, if_neg hf]
  by_cases h2 : (l.length : Int) < topS l
  · rw [if_pos h2, if_pos h2]; rfl
  rw [if_neg h2, if_neg h2]
  by_cases hs : sumW (l.take (topS l).toNat) ≠ 65535
  · rw [if_pos hs, if_pos hs]; rfl
  rw [if_neg hs, if_neg hs]
  by_cases ha : w2 l 2 < topS l ∨ rd l 6 ≥ 128
  · rw [if_pos ha, if_pos ha]; rfl
  rw [if_neg ha, if_neg ha]
  by_cases hn : (l.length : Int) < w2 l 2
  · rw [if_pos hn, if_pos hn]; rfl
  rw [if_neg hn, if_neg hn]
  simp only [if_true]
  have r0 := hB.at_ 0
  have t0 : 20 ≤ topS l ∧ topS l ≤ 60 := by unfold topS; omega
  have g4 := get16_f (k + 2) l 4 hB (by omega) (by omega) (by omega)
  have g6 := get16_f (k + 2) l 6 hB (by omega) (by omega) (by omega)
  have g12 := get32_f (k + 2) l 12 hB (by omega) (by omega) (by omega)
  have g16 := get32_f (k + 2) l 16 hB (by omega) (by omega) (by omega)
  have e4 : getS l 4 2 = (w2 l 4, 0) := getS2 l 4 (by omega)
  have e6 : getS l 6 2 = (w2 l 6, 0) := getS2 l 6 (by omega)
  have e12 : getS l 12 4 = (65536 * w2 l 12 + w2 l 14, 0) := getS4 l 12 (by omega)
  have e16 : getS l 16 4 = (65536 * w2 l 16 + w2 l 18, 0) := getS4 l 16 (by omega)
  have b4 := w2_bd l hB 4
  have b6 := w2_bd l hB 6
  have r6 := hB.at_ 6
  have r7 := hB.at_ 7
  have e7 : w2 l 6 = 256 * rd l 6 + rd l 7 := rfl
  rw [show k + 7 = k + 2 + 5 by omega, g4, g6, g12, g16, e4, e6, e12, e16]
  simp only [Option.bind_some]
  iterate 5 rw [if_pos (by omega)]
  rw [clone_f _ (by rw [List.length_drop, List.length_take]; omega)]
  simp only [Option.bind_some]
  iterate 3 rw [if_pos (by omega)]
  rw [clone_f _ (by rw [List.length_drop, List.length_take]; omega)]
  simp only [Option.bind_some]
  rw [u16w, and_whole _ b6, and_more _ b6, and_off _ b6, show w2 l 4 % 65536 = w2 l 4 by omega]
  rw [show (w2 l 6 / 16384 % 2 * 16384 != 0) = (rd l 6 / 64 % 2 == 1) by rw [Bool.eq_iff_iff, bne_iff_ne, beq_iff_eq]; omega, show (w2 l 6 / 8192 % 2 * 8192 != 0) = (rd l 6 / 32 % 2 == 1) by rw [Bool.eq_iff_iff, bne_iff_ne, beq_iff_eq]; omega]
end Go.Proofs.Ytdphjljbdodonaa.PIpL
namespace Go.Proofs.Ytdphjljbdodonaa.PIpL
open Go.RowKit Go.Proofs.Ytdphjljbdodonaa.PIpL Go.Proofs.YtdphjljbdodonaaW.PrintWords Go.Proofs.YtdphjljbdodonaaW.PrintLast Go.Proofs.YtdphjljbdodonaaW.PrintMore Go.Proofs.Ytdphjljbdodonaa.Ar Go.Proofs.Ytdphjljbdodonaa.HSum Go.Proofs.Ytdphjljbdodonaa.HExt
set_option linter.unusedVariables false
set_option linter.unusedSimpArgs false

/-- Bytes that are got as a packet. -/
def OkIp (l : List Int) : Prop := 20 ≤ l.length ∧ 69 ≤ rd l 0 ∧ rd l 0 ≤ 79 ∧ topS l ≤ (l.length : Int) ∧ sumW (l.take (topS l).toNat) = 65535 ∧ topS l ≤ w2 l 2 ∧ rd l 6 < 128 ∧ w2 l 2 ≤ (l.length : Int)
def fullIp (l : List Int) : IpR := (rd l 1, w2 l 4, rd l 6 / 64 % 2 == 1, rd l 6 / 32 % 2 == 1, w2 l 6 % 8192, rd l 8, rd l 9, 65536 * w2 l 12 + w2 l 14, 65536 * w2 l 16 + w2 l 18, (l.take (topS l).toNat).drop 20, (l.take (w2 l 2).toNat).drop (topS l).toNat, 0)
theorem getIp_cases (l : List Int) : (∃ e, e ≠ 0 ∧ getIp l = noIp e) ∨ (OkIp l ∧ getIp l = fullIp l) := by
  unfold getIp
  by_cases h1 : (l.length : Int) < 20
  · rw [if_pos h1]; exact .inl ⟨2, by decide, rfl⟩
  rw [if_neg h1]
  by_cases h2 : rd l 0 < 69 ∨ rd l 0 > 79
  · rw [if_pos h2]; exact .inl ⟨3, by decide, rfl⟩
  rw [if_neg h2]
  by_cases h3 : (l.length : Int) < topS l
  · rw [if_pos h3]; exact .inl ⟨2, by decide, rfl⟩
  rw [if_neg h3]
  by_cases h4 : sumW (l.take (topS l).toNat) ≠ 65535
  · rw [if_pos h4]; exact .inl ⟨4, by decide, rfl⟩
  rw [if_neg h4]
  by_cases h5 : w2 l 2 < topS l ∨ rd l 6 ≥ 128
  · rw [if_pos h5]; exact .inl ⟨3, by decide, rfl⟩
  rw [if_neg h5]
  by_cases h6 : (l.length : Int) < w2 l 2
  · rw [if_pos h6]; exact .inl ⟨2, by decide, rfl⟩
  rw [if_neg h6]
  exact .inr ⟨⟨by omega, by omega, by omega, by omega, by simpa using h4, by omega, by omega, by omega⟩, rfl⟩
theorem getIp_ok {l : List Int} (h : OkIp l) : getIp l = fullIp l := by
  obtain ⟨h1, h2, h3, h4, h5, h6, h7, h8⟩ := h
  unfold getIp
  rw [if_neg (by omega), if_neg (by omega), if_neg (by omega), if_neg (by simpa using h5), if_neg (by omega), if_neg (by omega)]
  rfl

theorem rd_take (l : List Int) (n i : Nat) (h : i < n) : rd (l.take n) (i : Int) = rd l (i : Int) := by
  unfold rd
  simp only [Int.toNat_natCast, List.getD_eq_getElem?_getD, List.getElem?_take, if_pos h]
theorem rd_set (l : List Int) (n i : Nat) (v : Int) (h : i ≠ n) : rd (l.set n v) (i : Int) = rd l (i : Int) := by
  unfold rd
  simp only [Int.toNat_natCast, List.getD_eq_getElem?_getD]
  rw [List.getElem?_set_ne (fun e => h e.symm)]
theorem rd_set_self (l : List Int) (n : Nat) (v : Int) (h : n < l.length) : rd (l.set n v) (n : Int) = v := by
  unfold rd
  simp only [Int.toNat_natCast, List.getD_eq_getElem?_getD]
  rw [List.getElem?_set_self h]
  rfl
theorem w2_take (l : List Int) (n i : Nat) (h : i + 1 < n) : w2 (l.take n) (i : Int) = w2 l (i : Int) := by
  unfold w2
  rw [rd_take l n i (by omega), show ((i : Int) + 1) = ((i + 1 : Nat) : Int) by omega, rd_take l n (i + 1) h]
theorem tt_first : ∀ (l : List Int), bytesB l = true → 1 ≤ l.length → rd l 0 * 256 ≤ tt l
  | [], _, h => by simp at h
  | [a], h, _ => Int.le_refl (a * 256)
  | a :: b :: t, h, _ => by
    have h1 := bytesB_mem h (x := b) (by simp)
    have h2 := tt_nonneg (l := t) (bytesB_of fun x hx => bytesB_mem h (by simp [hx]))
    show a * 256 ≤ a * 256 + b + tt t
    omega

theorem full_len {l : List Int} (h : OkIp l) : 20 + (((l.take (topS l).toNat).drop 20).length : Int) + (((l.take (w2 l 2).toNat).drop (topS l).toNat).length : Int) = w2 l 2 := by
  obtain ⟨h1, h2, h3, h4, h5, h6, h7, h8⟩ := h
  have : topS l = 4 * (rd l 0 - 64) := rfl
  simp only [List.length_drop, List.length_take]
  omega
end Go.Proofs.Ytdphjljbdodonaa.PIpL
namespace Go.Proofs.Ytdphjljbdodonaa.PIpL
open Go.RowKit Go.Proofs.Ytdphjljbdodonaa.PIpL Go.Proofs.YtdphjljbdodonaaW.PrintWords Go.Proofs.YtdphjljbdodonaaW.PrintLast Go.Proofs.YtdphjljbdodonaaW.PrintMore Go.Proofs.Ytdphjljbdodonaa.Ar Go.Proofs.Ytdphjljbdodonaa.HSum Go.Proofs.Ytdphjljbdodonaa.HExt
set_option linter.unusedVariables false
set_option linter.unusedSimpArgs false

theorem num06_f (l : List Int) (hB : Bytes l) (i : Nat) (hi : i + 2 ≤ l.length) (hl : i ≤ 1000000) : towroperef06_number.f l i = some (w2 l i) := by
  have h0 := hB.at_ (i : Int)
  have h1 := hB.at_ ((i : Int) + 1)
  unfold towroperef06_number.f
  rw [w64 (n := (i : Int) + 1) (by omega) (by omega), if_pos (by omega), if_pos (by omega), if_pos (by omega), if_pos (by omega), w64 (n := rd l i) (by omega) (by omega), w64 (n := 256 * rd l i) (by omega) (by omega), w64 (n := rd l ((i : Int) + 1)) (by omega) (by omega), w64 (by omega) (by omega)]
  rfl

theorem refj1_f (k : Nat) (l : List Int) (h : bytesB l = true) (hl : l.length ≤ 70000) (h20 : 20 ≤ l.length) (t n : Int) (ht0 : 20 ≤ t) (ht : t ≤ l.length) (htn : t ≤ n) :
    towroperef06_Get.j1 (k + 1) l t n false = some (if (l.length : Int) < n then noIp 2 else (rd l 1, w2 l 4, rd l 6 / 64 % 2 == 1, rd l 6 / 32 % 2 == 1, w2 l 6 % 8192, rd l 8, rd l 9, 65536 * w2 l 12 + w2 l 14, 65536 * w2 l 16 + w2 l 18, (l.take t.toNat).drop 20, (l.take n.toNat).drop t.toNat, 0)) := by
  have hB : Bytes l := fun x hx => bytesB_mem h hx
  simp only [towroperef06_Get.j1]
  rw [if_neg (by simp)]
  by_cases hn : (l.length : Int) < n
  · rw [if_pos hn, if_pos hn]; rfl
  · rw [if_neg hn, if_neg hn]
    have n4 : towroperef06_number.f l 4 = some (w2 l 4) := num06_f l hB 4 (by omega) (by omega)
    have n6 : towroperef06_number.f l 6 = some (w2 l 6) := num06_f l hB 6 (by omega) (by omega)
    have n12 : towroperef06_number.f l 12 = some (w2 l 12) := num06_f l hB 12 (by omega) (by omega)
    have n14 : towroperef06_number.f l 14 = some (w2 l 14) := num06_f l hB 14 (by omega) (by omega)
    have n16 : towroperef06_number.f l 16 = some (w2 l 16) := num06_f l hB 16 (by omega) (by omega)
    have n18 : towroperef06_number.f l 18 = some (w2 l 18) := num06_f l hB 18 (by omega) (by omega)
    have b4 := w2_bd l hB 4
    have b6 := w2_bd l hB 6
    have b12 := w2_bd l hB 12
    have b14 := w2_bd l hB 14
    have b16 := w2_bd l hB 16
    have b18 := w2_bd l hB 18
    have r6 := hB.at_ 6
    rw [n4, n6, n12, n14, n16, n18]
    simp only [Option.bind_some]
    iterate 9 rw [if_pos (by omega)]
    rw [u16w, td _ _ (by omega), td _ _ (by omega), tm _ _ (by omega), w64 (n := 65536 * w2 l 12) (by omega) (by omega), w64 (n := 65536 * w2 l 16) (by omega) (by omega), w64 (n := 65536 * w2 l 12 + w2 l 14) (by omega) (by omega), w64 (n := 65536 * w2 l 16 + w2 l 18) (by omega) (by omega)]
    rw [show w2 l 4 % 65536 = w2 l 4 by omega, show rd l 6 / 64 % 256 % 2 = rd l 6 / 64 % 2 by omega, show rd l 6 / 32 % 256 % 2 = rd l 6 / 32 % 2 by omega, show (65536 * w2 l 12 + w2 l 14) % 4294967296 = 65536 * w2 l 12 + w2 l 14 by omega, show (65536 * w2 l 16 + w2 l 18) % 4294967296 = 65536 * w2 l 16 + w2 l 18 by omega]
theorem refj1_t (k : Nat) (l : List Int) (t n : Int) : towroperef06_Get.j1 (k + 1) l t n true = some (noIp 3) := by
  simp only [towroperef06_Get.j1]
  rfl

theorem refj0_f (k : Nat) (l : List Int) (h : bytesB l = true) (hl : l.length ≤ 70000) (h20 : 20 ≤ l.length) (b : Bool) (hb : b = true ↔ rd l 0 < 69 ∨ rd l 0 > 79) (hk : l.length + 10 ≤ k) :
    towroperef06_Get.j0 (k + 1) l b = some (getIp l) := by
  have hB : Bytes l := fun x hx => bytesB_mem h hx
  have r0 := hB.at_ 0
  simp only [towroperef06_Get.j0]
  unfold getIp
  rw [if_neg (show ¬ (l.length : Int) < 20 by omega)]
  by_cases hf : rd l 0 < 69 ∨ rd l 0 > 79
  · rw [if_pos (hb.2 hf), if_pos hf]; rfl
  · rw [if_neg (fun x => hf (hb.1 x)), if_neg hf, if_pos (by omega), w64 (n := rd l 0) (by omega) (by omega), w64 (n := rd l 0 - 64) (by omega) (by omega), w64 (n := 4 * (rd l 0 - 64)) (by omega) (by omega)]
    have ht : 4 * (rd l 0 - 64) = topS l := rfl
    rw [ht]
    have t0 : 20 ≤ topS l ∧ topS l ≤ 60 := by unfold topS; omega
    by_cases h2 : (l.length : Int) < topS l
    · rw [if_pos h2, if_pos h2]; rfl
    · rw [if_neg h2, if_neg h2, if_pos (by omega), if_pos (by omega), refsum_f k _ (by rw [List.length_take]; omega) (take_bytes h _) (by rw [List.length_take]; omega)]
      simp only [Option.bind_some]
      by_cases hs : sumW (l.take (topS l).toNat) = 65535
      · have n2 : towroperef06_number.f l 2 = some (w2 l 2) := num06_f l hB 2 (by omega) (by omega)
        obtain ⟨m, rfl⟩ : ∃ m, k = m + 1 := ⟨k - 1, by omega⟩
        rw [if_pos hs, if_neg (by simpa using hs), n2]
        simp only [Option.bind_some]
        by_cases ha : w2 l 2 < topS l
        · rw [if_pos ha, refj1_t, if_pos (.inl ha)]
        · rw [if_neg ha, if_pos (by omega)]
          by_cases h6 : rd l 6 ≥ 128
          · rw [decide_eq_true h6, refj1_t, if_pos (.inr h6)]
          · rw [decide_eq_false h6, refj1_f m l h hl h20 _ _ t0.1 (by omega) (by omega), if_neg (show ¬ (w2 l 2 < topS l ∨ rd l 6 ≥ 128) by omega)]
      · rw [if_neg hs, if_pos (by simpa using hs)]; rfl
theorem refget_f (k : Nat) (l : List Int) (h : bytesB l = true) (hl : l.length ≤ 70000) (hk : l.length + 11 ≤ k) : towroperef06_Get.f k l = some (getIp l) := by
  obtain ⟨k, rfl⟩ : ∃ m, k = m + 1 := ⟨k - 1, by omega⟩
  unfold towroperef06_Get.f
  by_cases h20 : (l.length : Int) < 20
  · rw [if_pos h20]
    unfold getIp
    rw [if_pos h20]
    rfl
  · rw [if_neg h20, if_pos (by omega)]
    by_cases h1 : rd l 0 < 69
    · rw [if_pos h1]
      exact refj0_f k l h hl (by omega) true ⟨fun _ => .inl h1, fun _ => rfl⟩ (by omega)
    · rw [if_neg h1]
      exact refj0_f k l h hl (by omega) _ ⟨fun x => .inr (of_decide_eq_true x), fun x => decide_eq_true (x.resolve_left h1)⟩ (by omega)
end Go.Proofs.Ytdphjljbdodonaa.PIpL
namespace Go.Proofs.Ytdphjljbdodonaa.PIpL
open Go.RowKit Go.Proofs.YtdphjljbdodonaaW.PrintWords Go.Proofs.YtdphjljbdodonaaW.PrintLast Go.Proofs.YtdphjljbdodonaaW.PrintMore Go.Proofs.Ytdphjljbdodonaa.Ar Go.Proofs.Ytdphjljbdodonaa.HSum
set_option linter.unusedVariables false
set_option linter.unusedSimpArgs false

theorem sumadd_f (a b : Int) : sum_Add.f a b = some (addF a b) := by
  unfold sum_Add.f
  rw [and_low a, and_low b, w64 (n := a % 65536 + b % 65536) (by omega) (by omega), and_low, w64 (by omega) (by omega)]
  congr 1
  unfold addF
  omega
theorem addF_bnd (a b : Int) : 0 ≤ addF a b ∧ addF a b ≤ 65536 := by unfold addF; omega
theorem xor_not (a : Int) (a0 : -9223372036854775808 ≤ a) (a1 : a ≤ 9223372036854775807) : Go.bits .xor .i64 (-1) a = -1 - a := by
  show IntKind.i64.wrap (((BitVec.ofInt 64 (-1) ^^^ BitVec.ofInt 64 a).toNat : Nat) : Int) = -1 - a
  have e : BitVec.ofInt 64 (-1) = BitVec.allOnes 64 := by decide
  rw [e, BitVec.allOnes_xor, BitVec.toNat_not, BitVec.toNat_ofInt, IntKind.wrap_i64]
  omega

def turnS (check was now : Int) : Int := 65535 - addF (addF (65535 - check % 65536) (65535 - was % 65536)) now
theorem turn_f (a b c : Int) (a0 : -9223372036854775808 ≤ a) (a1 : a ≤ 9223372036854775807) (b0 : -9223372036854775808 ≤ b) (b1 : b ≤ 9223372036854775807) : sum_Turn.f a b c = some (turnS a b c) := by
  unfold sum_Turn.f
  rw [xor_not a a0 a1, xor_not b b0 b1, sumadd_f]
  simp only [Option.bind_some]
  rw [sumadd_f]
  simp only [Option.bind_some]
  have e : addF (-1 - a) (-1 - b) = addF (65535 - a % 65536) (65535 - b % 65536) := by unfold addF; omega
  have := addF_bnd (addF (65535 - a % 65536) (65535 - b % 65536)) c
  rw [e, w64 (by omega) (by omega)]
  rfl
theorem refturn_f (a b c : Int) : towroperef02_Turn.f a b c = some (turnS a b c) := by
  unfold towroperef02_Turn.f towroperef02_Low.f
  rw [u64w, u64w, tm _ _ (by omega), tm _ _ (by omega)]
  simp only [Option.bind_some]
  have ea : a % 18446744073709551616 % 65536 = a % 65536 := by omega
  have eb : b % 18446744073709551616 % 65536 = b % 65536 := by omega
  rw [ea, eb, w64 (n := a % 65536) (by omega) (by omega), w64 (n := b % 65536) (by omega) (by omega), w64 (n := 65535 - a % 65536) (by omega) (by omega), w64 (n := 65535 - b % 65536) (by omega) (by omega), refadd_f]
  simp only [Option.bind_some]
  rw [refadd_f]
  simp only [Option.bind_some]
  have := addF_bnd (addF (65535 - a % 65536) (65535 - b % 65536)) c
  rw [w64 (by omega) (by omega)]
  rfl
end Go.Proofs.Ytdphjljbdodonaa.PIpL
namespace Go.Proofs.Ytdphjljbdodonaa.PIpL
open Go.RowKit Go.Proofs.YtdphjljbdodonaaW.PrintWords Go.Proofs.YtdphjljbdodonaaW.PrintLast Go.Proofs.YtdphjljbdodonaaW.PrintMore Go.Proofs.Ytdphjljbdodonaa.Ar Go.Proofs.Ytdphjljbdodonaa.HSum
set_option linter.unusedVariables false
set_option linter.unusedSimpArgs false

theorem two_f (n : Int) : towroperef01_Two.f n = some (twoS n) := by
  unfold towroperef01_Two.f twoS
  rw [u64w, tm _ _ (by omega)]
  have e : n % 18446744073709551616 % 65536 = n % 65536 := by omega
  rw [e, w64 (n := n % 65536) (by omega) (by omega), tm _ _ (by omega), td _ _ (by omega), w64 (by omega) (by omega), show n % 65536 / 256 % 256 = n % 65536 / 256 by omega, show n % 65536 % 256 % 256 = n % 256 by omega]
end Go.Proofs.Ytdphjljbdodonaa.PIpL
namespace Go.Proofs.Ytdphjljbdodonaa.PIpL
open Go.RowKit Go.Proofs.Ytdphjljbdodonaa.PIpL Go.Proofs.YtdphjljbdodonaaW.PrintWords Go.Proofs.YtdphjljbdodonaaW.PrintLast Go.Proofs.YtdphjljbdodonaaW.PrintMore Go.Proofs.Ytdphjljbdodonaa.Ar Go.Proofs.Ytdphjljbdodonaa.HSum Go.Proofs.Ytdphjljbdodonaa.HExt
set_option linter.unusedVariables false
set_option linter.unusedSimpArgs false
theorem turned_bytes {l : List Int} (h : bytesB l = true) (j : Nat) {x : Int} (x0 : 0 ≤ x ∧ x ≤ 255) : bytesB (l.set j x) = true := bytesB_of fun y hy => by
  rcases List.mem_or_eq_of_mem_set hy with hy | rfl
  · exact bytesB_mem h hy
  · exact x0
end Go.Proofs.Ytdphjljbdodonaa.PIpL
namespace Go.Proofs.Ytdphjljbdodonaa.PIpL
open Go.RowKit Go.Proofs.Ytdphjljbdodonaa.PIpL Go.Proofs.YtdphjljbdodonaaW.PrintWords Go.Proofs.YtdphjljbdodonaaW.PrintLast Go.Proofs.YtdphjljbdodonaaW.PrintMore Go.Proofs.Ytdphjljbdodonaa.Ar Go.Proofs.Ytdphjljbdodonaa.HSum Go.Proofs.Ytdphjljbdodonaa.HExt
set_option linter.unusedVariables false
set_option linter.unusedSimpArgs false
theorem iplen_f (a0 a1 : Int) (a2 a3 : Bool) (a4 a5 a6 a7 a8 : Int) (o d : List Int) (ho : o.length ≤ 4611686018427387904) (hd : d.length ≤ 4611686018427387000) : ip_Len.f a0 a1 a2 a3 a4 a5 a6 a7 a8 o d = some (20 + (o.length : Int) + (d.length : Int)) := by
  unfold ip_Len.f
  rw [w64 (n := 20 + (o.length : Int)) (by omega) (by omega), w64 (by omega) (by omega)]
theorem reflen_f (a0 a1 : Int) (a2 a3 : Bool) (a4 a5 a6 a7 a8 : Int) (o d : List Int) (ho : o.length ≤ 4611686018427387904) (hd : d.length ≤ 4611686018427387000) : towroperef06_Len.f a0 a1 a2 a3 a4 a5 a6 a7 a8 o d = some (20 + (o.length : Int) + (d.length : Int)) := by
  unfold towroperef06_Len.f
  rw [w64 (n := 20 + (o.length : Int)) (by omega) (by omega), w64 (by omega) (by omega)]
end Go.Proofs.Ytdphjljbdodonaa.PIpL
namespace Go.Proofs.Ytdphjljbdodonaa.PIpL
open Go.RowKit Go.Proofs.Ytdphjljbdodonaa.PIpL Go.Proofs.YtdphjljbdodonaaW.PrintWords Go.Proofs.YtdphjljbdodonaaW.PrintLast Go.Proofs.YtdphjljbdodonaaW.PrintMore Go.Proofs.Ytdphjljbdodonaa.Ar Go.Proofs.Ytdphjljbdodonaa.HSum Go.Proofs.Ytdphjljbdodonaa.HExt
set_option linter.unusedVariables false
set_option linter.unusedSimpArgs false

theorem over_two : ∀ (i : Nat) (xs : List Int) (a b : Int), i + 2 ≤ xs.length → over i xs [a, b] = (xs.set i a).set (i + 1) b
  | 0, x :: y :: t, a, b, _ => rfl
  | i + 1, x :: t, a, b, h => by
    have ih := over_two i t a b (by simp only [List.length_cons] at h; omega)
    show x :: (t.take i ++ ([a, b] ++ (x :: t).drop (i + 1 + 2))) = x :: (t.set i a).set (i + 1) b
    rw [← ih]
    rfl
  | 0, [], _, _, h => by simp at h
  | 0, [_], _, _, h => by simp at h
  | i + 1, [], _, _, h => by simp at h
theorem addF_mod (a b : Int) (a0 : 0 ≤ a) (a1 : a ≤ 65535) (b0 : 0 ≤ b) (b1 : b ≤ 65535) : addF a b = a + b - 65535 * ((a + b) / 65536) ∧ 0 ≤ addF a b ∧ addF a b ≤ 65535 := by
  unfold addF
  omega
theorem turnS_two (c was : Int) (c0 : 0 ≤ c) (c1 : c ≤ 65535) (w0 : 256 ≤ was) (w1 : was ≤ 65535) : (0 ≤ turnS c was (was - 256) ∧ turnS c was (was - 256) ≤ 65535) ∧ (turnS c was (was - 256) - c - 256) % 65535 = 0 := by
  have f := addF_mod (65535 - c) (65535 - was) (by omega) (by omega) (by omega) (by omega)
  have g := addF_mod (addF (65535 - c) (65535 - was)) (was - 256) (by omega) (by omega) (by omega) (by omega)
  unfold turnS
  rw [show c % 65536 = c by omega, show was % 65536 = was by omega]
  generalize addF (addF (65535 - c) (65535 - was)) (was - 256) = y at *
  generalize addF (65535 - c) (65535 - was) = x at *
  omega

/-- A packet that goes on, of bytes that are one. -/
def liveB (l : List Int) : List Int := over 10 ((l.take (w2 l 2).toNat).set 8 (rd l 8 - 1)) (twoS (turnS (w2 l 10) (w2 l 8) (w2 l 8 - 256)))
def liveS (l : List Int) : List Int × Int := if (getIp l).2.2.2.2.2.2.2.2.2.2.2 = 0 then (if rd l 8 ≤ 1 then ([], 6) else (liveB l, 0)) else ([], (getIp l).2.2.2.2.2.2.2.2.2.2.2)
theorem live_set {l : List Int} (h : OkIp l) : liveB l = (((l.take (w2 l 2).toNat).set 8 (rd l 8 - 1)).set 10 (turnS (w2 l 10) (w2 l 8) (w2 l 8 - 256) % 65536 / 256)).set 11 (turnS (w2 l 10) (w2 l 8) (w2 l 8 - 256) % 256) := by
  obtain ⟨h1, h2, h3, h4, h5, h6, h7, h8⟩ := h
  have ht : topS l = 4 * (rd l 0 - 64) := rfl
  unfold liveB twoS
  exact over_two 10 _ _ _ (by rw [List.length_set, List.length_take]; omega)
theorem iplive_f (k : Nat) (l : List Int) (h : bytesB l = true) (hl : l.length ≤ 70000) : ip_Live.f (k + 7) l = some (liveS l) := by
  have hB : Bytes l := fun x hx => bytesB_mem h hx
  unfold ip_Live.f
  rw [ipget_f k l h hl, Option.bind_some]
  unfold liveS
  rcases getIp_cases l with ⟨e, he, hg⟩ | ⟨hok, hg⟩
  · rw [hg]
    unfold noIp
    rw [if_neg he, if_neg he]
  · have hlen := full_len hok
    have hok' := hok
    obtain ⟨h1, h2, h3, h4, h5, h6, h7, h8⟩ := hok'
    have ht : topS l = 4 * (rd l 0 - 64) := rfl
    have b8 := hB.at_ 8
    have b9 := hB.at_ 9
    have hw8 : w2 l 8 = 256 * rd l 8 + rd l 9 := rfl
    rw [hg]
    unfold fullIp
    rw [if_pos rfl, if_pos rfl]
    by_cases h81 : rd l 8 ≤ 1
    · rw [if_pos h81, if_pos h81]
    rw [if_neg h81, if_neg h81]
    have hn : ((l.take (w2 l 2).toNat).length : Int) = w2 l 2 := by rw [List.length_take]; omega
    have hcB : Bytes (l.take (w2 l 2).toNat) := fun x hx => hB x (List.mem_of_mem_take hx)
    have q8 : rd (l.take (w2 l 2).toNat) 8 = rd l 8 := rd_take l _ 8 (by omega)
    have q9 : rd (l.take (w2 l 2).toNat) 9 = rd l 9 := rd_take l _ 9 (by omega)
    have e8 : w2 (l.take (w2 l 2).toNat) 8 = w2 l 8 := w2_take l _ 8 (by omega)
    have e10 : w2 (l.take (w2 l 2).toNat) 10 = w2 l 10 := w2_take l _ 10 (by omega)
    rw [iplen_f _ _ _ _ _ _ _ _ _ _ _ (by rw [List.length_drop, List.length_take]; omega) (by rw [List.length_drop, List.length_take]; omega), Option.bind_some]
    rw [hlen, if_pos (by omega), if_pos h8, clone_f _ (by rw [List.length_take]; omega), Option.bind_some]
    rw [get16_f _ _ 8 hcB (by rw [List.length_take]; omega) (by omega) (by omega), Option.bind_some, get16_f _ _ 10 hcB (by rw [List.length_take]; omega) (by omega) (by omega), Option.bind_some]
    rw [if_pos (by omega), Option.bind_some]
    have hyB : Bytes ((l.take (w2 l 2).toNat).set 8 ((rd (l.take (w2 l 2).toNat) 8 - 1) % 256)) := fun x hx => by
      rcases List.mem_or_eq_of_mem_set hx with hx | rfl
      · exact hcB x hx
      · omega
    have g8 := getS2 (l.take (w2 l 2).toNat) 8 (by omega)
    have g10 := getS2 (l.take (w2 l 2).toNat) 10 (by omega)
    have gy := getS2 ((l.take (w2 l 2).toNat).set 8 ((rd (l.take (w2 l 2).toNat) 8 - 1) % 256)) 8 (by rw [List.length_set]; omega)
    have ey : w2 ((l.take (w2 l 2).toNat).set 8 ((rd (l.take (w2 l 2).toNat) 8 - 1) % 256)) 8 = w2 l 8 - 256 := by
      have s8 := rd_set_self (l.take (w2 l 2).toNat) 8 ((rd (l.take (w2 l 2).toNat) 8 - 1) % 256) (by omega)
      have s9 := rd_set (l.take (w2 l 2).toNat) 8 9 ((rd (l.take (w2 l 2).toNat) 8 - 1) % 256) (by omega)
      show 256 * rd _ ((8 : Nat) : Int) + rd _ ((9 : Nat) : Int) = _
      rw [s8, s9, hw8]
      show 256 * ((rd (l.take (w2 l 2).toNat) 8 - 1) % 256) + rd (l.take (w2 l 2).toNat) 9 = _
      rw [q8, q9]
      omega
    rw [show ((8 : Int)).toNat = 8 from rfl, get16_f _ _ 8 hyB (by rw [List.length_set, List.length_take]; omega) (by omega) (by omega), Option.bind_some]
    have g8' : getS (l.take (w2 l 2).toNat) 8 2 = (w2 l 8, 0) := by rw [← e8]; exact g8
    have g10' : getS (l.take (w2 l 2).toNat) 10 2 = (w2 l 10, 0) := by rw [← e10]; exact g10
    have gy' : getS ((l.take (w2 l 2).toNat).set 8 ((rd (l.take (w2 l 2).toNat) 8 - 1) % 256)) 8 2 = (w2 l 8 - 256, 0) := by rw [← ey]; exact gy
    rw [g8', g10', gy']
    have b10 := w2_bd l hB 10
    have bw := w2_bd l hB 8
    rw [turn_f _ _ _ (by omega) (by omega) (by omega) (by omega), Option.bind_some, show k + 7 = k + 4 + 3 by omega, put16_f (k + 4) [] _ (by simp only [List.length_nil]; omega), Option.bind_some, List.nil_append]
    have e2 : (twoS (turnS (w2 l 10) (w2 l 8) (w2 l 8 - 256))).length = 2 := rfl
    rw [if_pos ⟨by rw [e2, List.length_set]; omega, by rw [e2]; omega⟩]
    unfold liveB
    rw [q8, show (rd l 8 - 1) % 256 = rd l 8 - 1 by omega]
theorem reflive_f (k : Nat) (l : List Int) (h : bytesB l = true) (hl : l.length ≤ 70000) (hk : l.length + 11 ≤ k) : towroperef06_Live.f k l = some (liveS l) := by
  have hB : Bytes l := fun x hx => bytesB_mem h hx
  unfold towroperef06_Live.f
  rw [refget_f k l h hl hk, Option.bind_some]
  unfold liveS
  rcases getIp_cases l with ⟨e, he, hg⟩ | ⟨hok, hg⟩
  · rw [hg]
    unfold noIp
    rw [if_neg he, if_neg he]
  · have hlen := full_len hok
    have hset := live_set hok
    have hok' := hok
    obtain ⟨h1, h2, h3, h4, h5, h6, h7, h8⟩ := hok'
    have ht : topS l = 4 * (rd l 0 - 64) := rfl
    have b8 := hB.at_ 8
    have b9 := hB.at_ 9
    have hw8 : w2 l 8 = 256 * rd l 8 + rd l 9 := rfl
    rw [hg]
    unfold fullIp
    rw [if_pos rfl, if_pos rfl]
    by_cases h81 : rd l 8 ≤ 1
    · rw [if_pos (by show rd l 8 < 2; omega), if_pos h81]
    rw [if_neg (by show ¬ rd l 8 < 2; omega), if_neg h81, Option.bind_some]
    have hn : ((l.take (w2 l 2).toNat).length : Int) = w2 l 2 := by rw [List.length_take]; omega
    have hcB : Bytes (l.take (w2 l 2).toNat) := fun x hx => hB x (List.mem_of_mem_take hx)
    have q8 : rd (l.take (w2 l 2).toNat) 8 = rd l 8 := rd_take l _ 8 (by omega)
    have q9 : rd (l.take (w2 l 2).toNat) 9 = rd l 9 := rd_take l _ 9 (by omega)
    rw [reflen_f _ _ _ _ _ _ _ _ _ _ _ (by rw [List.length_drop, List.length_take]; omega) (by rw [List.length_drop, List.length_take]; omega), Option.bind_some]
    rw [hlen, if_pos (by omega), if_pos h8, if_pos (by rw [List.length_nil, List.length_take]; omega), Option.bind_some, List.nil_append]
    rw [if_pos (by omega), Option.bind_some, show ((8 : Int)).toNat = 8 from rfl]
    have hyB : Bytes ((l.take (w2 l 2).toNat).set 8 ((rd l 8 - 1) % 256)) := fun x hx => by
      rcases List.mem_or_eq_of_mem_set hx with hx | rfl
      · exact hcB x hx
      · omega
    have ey : w2 ((l.take (w2 l 2).toNat).set 8 ((rd l 8 - 1) % 256)) 8 = w2 l 8 - 256 := by
      have s8 := rd_set_self (l.take (w2 l 2).toNat) 8 ((rd l 8 - 1) % 256) (by omega)
      have s9 := rd_set (l.take (w2 l 2).toNat) 8 9 ((rd l 8 - 1) % 256) (by omega)
      show 256 * rd _ ((8 : Nat) : Int) + rd _ ((9 : Nat) : Int) = _
      rw [s8, s9, hw8]
      show 256 * ((rd l 8 - 1) % 256) + rd (l.take (w2 l 2).toNat) 9 = _
      rw [q9]
      omega
    have n10 : towroperef06_number.f l 10 = some (w2 l 10) := num06_f l hB 10 (by omega) (by omega)
    have n8 : towroperef06_number.f l 8 = some (w2 l 8) := num06_f l hB 8 (by omega) (by omega)
    have ny : towroperef06_number.f ((l.take (w2 l 2).toNat).set 8 ((rd l 8 - 1) % 256)) 8 = some (w2 l 8 - 256) := by rw [← ey]; exact num06_f _ hyB 8 (by rw [List.length_set]; omega) (by omega)
    rw [n10, Option.bind_some, n8, Option.bind_some, ny, Option.bind_some, refturn_f, Option.bind_some, two_f, Option.bind_some]
    have e2 : (twoS (turnS (w2 l 10) (w2 l 8) (w2 l 8 - 256))).length = 2 := rfl
    rw [e2, if_pos (by omega), if_pos (by omega), if_pos (by omega), if_pos (by omega), hset, show (rd l 8 - 1) % 256 = rd l 8 - 1 by omega]
    rfl
theorem live_ok {l : List Int} (h : bytesB l = true) (hok : OkIp l) (hlife : 2 ≤ rd l 8) : bytesB (liveB l) = true ∧ (liveB l).length ≤ l.length ∧
    getIp (liveB l) = (rd l 1, w2 l 4, rd l 6 / 64 % 2 == 1, rd l 6 / 32 % 2 == 1, w2 l 6 % 8192, rd l 8 - 1, rd l 9, 65536 * w2 l 12 + w2 l 14, 65536 * w2 l 16 + w2 l 18, (l.take (topS l).toNat).drop 20, (l.take (w2 l 2).toNat).drop (topS l).toNat, 0) := by
  have hB : Bytes l := fun x hx => bytesB_mem h hx
  have hset := live_set hok
  obtain ⟨h1, h2, h3, h4, h5, h6, h7, h8⟩ := hok
  have ht : topS l = 4 * (rd l 0 - 64) := rfl
  have b8 := hB.at_ 8
  have b9 := hB.at_ 9
  have b10 := hB.at_ 10
  have b11 := hB.at_ 11
  have hw8 : w2 l 8 = 256 * rd l 8 + rd l 9 := rfl
  have hw10 : w2 l 10 = 256 * rd l 10 + rd l 11 := rfl
  obtain ⟨⟨t0, t1⟩, tm_⟩ := turnS_two (w2 l 10) (w2 l 8) (by omega) (by omega) (by omega) (by omega)
  generalize turnS (w2 l 10) (w2 l 8) (w2 l 8 - 256) = t at *
  obtain ⟨n, hn⟩ : ∃ n : Nat, w2 l 2 = n := ⟨(w2 l 2).toNat, by omega⟩
  obtain ⟨m, hm⟩ : ∃ m : Nat, topS l = m := ⟨(topS l).toNat, by omega⟩
  rw [hn] at h6 h8 hset
  rw [hm] at h4 h5 h6 ht
  rw [hn, hm]
  simp only [Int.toNat_natCast] at h5 hset ⊢
  rw [hset]
  have hxB : bytesB ((((l.take n).set 8 (rd l 8 - 1)).set 10 (t % 65536 / 256)).set 11 (t % 256)) = true :=
    turned_bytes (turned_bytes (turned_bytes (take_bytes h n) 8 (by omega)) 10 (by omega)) 11 (by omega)
  have rdx : ∀ i : Nat, i < n → i ≠ 8 → i ≠ 10 → i ≠ 11 → rd ((((l.take n).set 8 (rd l 8 - 1)).set 10 (t % 65536 / 256)).set 11 (t % 256)) (i : Int) = rd l (i : Int) := fun i hi i8 i10 i11 => by
    rw [rd_set _ _ _ _ i11, rd_set _ _ _ _ i10, rd_set _ _ _ _ i8, rd_take l n i hi]
  have w2x : ∀ i : Nat, i + 1 < n → (i + 1 < 8 ∨ 11 < i) → w2 ((((l.take n).set 8 (rd l 8 - 1)).set 10 (t % 65536 / 256)).set 11 (t % 256)) (i : Int) = w2 l (i : Int) := fun i hi hx => by
    unfold w2
    rw [rdx i (by omega) (by omega) (by omega) (by omega), show ((i : Int) + 1) = ((i + 1 : Nat) : Int) by omega, rdx (i + 1) (by omega) (by omega) (by omega) (by omega)]
  have r8 : rd ((((l.take n).set 8 (rd l 8 - 1)).set 10 (t % 65536 / 256)).set 11 (t % 256)) ((8 : Nat) : Int) = rd l 8 - 1 := by
    rw [rd_set _ _ _ _ (by decide), rd_set _ _ _ _ (by decide), rd_set_self _ _ _ (by rw [List.length_take]; omega)]
  have hlx : ((((l.take n).set 8 (rd l 8 - 1)).set 10 (t % 65536 / 256)).set 11 (t % 256)).length = n := by simp only [List.length_set, List.length_take]; omega
  refine ⟨hxB, by rw [hlx]; omega, ?_⟩
  have topx : topS ((((l.take n).set 8 (rd l 8 - 1)).set 10 (t % 65536 / 256)).set 11 (t % 256)) = m := by
    have := rdx 0 (by omega) (by decide) (by decide) (by decide)
    rw [← hm]
    unfold topS
    rw [show (0 : Int) = ((0 : Nat) : Int) from rfl, this]
  have tk : ((((l.take n).set 8 (rd l 8 - 1)).set 10 (t % 65536 / 256)).set 11 (t % 256)).take m = (((l.take m).set 8 (rd l 8 - 1)).set 10 (t % 65536 / 256)).set 11 (t % 256) := by
    rw [List.take_set, List.take_set, List.take_set, List.take_take, Nat.min_eq_left (by omega)]
  have hH : bytesB (l.take m) = true := take_bytes h m
  have hHl : (l.take m).length = m := by rw [List.length_take]; omega
  -- the sum of the head
  have e1 : tt ((((l.take m).set 8 (rd l 8 - 1)).set 10 (t % 65536 / 256)).set 11 (t % 256)) = tt (l.take m) - 256 - w2 l 10 + t := by
    have s1 := tt_set 5 ((l.take m).set 8 (rd l 8 - 1)) (t % 65536 / 256) (t % 256) (by rw [List.length_set]; omega)
    have s2 := tt_set 4 (l.take m) (rd l 8 - 1) (rd l 9) (by omega)
    have s3 : ((l.take m).set 8 (rd l 8 - 1)).set 9 (rd l 9) = (l.take m).set 8 (rd l 8 - 1) := by
      apply List.ext_getElem?
      intro i
      rcases Nat.decEq i 9 with hi | hi
      · rw [List.getElem?_set_ne (fun e => hi e.symm)]
      · subst hi
        rw [List.getElem?_set_self (by rw [List.length_set]; omega), List.getElem?_set_ne (by decide), List.getElem?_take, if_pos (by omega)]
        unfold rd
        rw [show ((9 : Int)).toNat = 9 from rfl, List.getD_eq_getElem?_getD, List.getElem?_eq_getElem (by omega)]
        rfl
    have r8' : rd (l.take m) ((2 * 4 : Nat) : Int) = rd l 8 := rd_take l m 8 (by omega)
    have r9' : rd (l.take m) ((2 * 4 + 1 : Nat) : Int) = rd l 9 := rd_take l m 9 (by omega)
    have r10' : rd ((l.take m).set 8 (rd l 8 - 1)) ((2 * 5 : Nat) : Int) = rd l 10 := by rw [rd_set _ _ _ _ (by decide)]; exact rd_take l m 10 (by omega)
    have r11' : rd ((l.take m).set 8 (rd l 8 - 1)) ((2 * 5 + 1 : Nat) : Int) = rd l 11 := by rw [rd_set _ _ _ _ (by decide)]; exact rd_take l m 11 (by omega)
    rw [r8', r9'] at s2
    rw [r10', r11'] at s1
    have s2' : tt ((l.take m).set 8 (rd l 8 - 1)) = tt (l.take m) - (rd l 8 * 256 + rd l 9) + ((rd l 8 - 1) * 256 + rd l 9) := by rw [← s2]; exact congrArg tt s3.symm
    have s1' : tt ((((l.take m).set 8 (rd l 8 - 1)).set 10 (t % 65536 / 256)).set 11 (t % 256)) = tt ((l.take m).set 8 (rd l 8 - 1)) - (rd l 10 * 256 + rd l 11) + (t % 65536 / 256 * 256 + t % 256) := s1
    rw [s1', s2', hw10]
    omega
  have hHx : bytesB ((((l.take m).set 8 (rd l 8 - 1)).set 10 (t % 65536 / 256)).set 11 (t % 256)) = true := by rw [← tk]; exact take_bytes hxB m
  have hpos := tt_first _ hHx (by simp only [List.length_set]; omega)
  have rH0 : rd ((((l.take m).set 8 (rd l 8 - 1)).set 10 (t % 65536 / 256)).set 11 (t % 256)) 0 = rd l 0 := by
    have a := rd_set (((l.take m).set 8 (rd l 8 - 1)).set 10 (t % 65536 / 256)) 11 0 (t % 256) (by decide)
    have b := rd_set ((l.take m).set 8 (rd l 8 - 1)) 10 0 (t % 65536 / 256) (by decide)
    have c := rd_set (l.take m) 8 0 (rd l 8 - 1) (by decide)
    have d := rd_take l m 0 (by omega)
    exact a.trans (b.trans (c.trans d))
  have hT := sumW_tt hH
  rw [h5] at hT
  have hT0 := tt_nonneg hH
  have hsum : sumW ((((l.take m).set 8 (rd l 8 - 1)).set 10 (t % 65536 / 256)).set 11 (t % 256)) = 65535 := by
    rw [sumW_tt hHx]
    rw [rH0] at hpos
    rw [e1] at hpos ⊢
    generalize tt (l.take m) = T at *
    have e5 : (T - 256 - w2 l 10 + t) % 65535 = 0 := by
      have : T % 65535 = 0 := by
        unfold norm at hT
        split at hT
        · omega
        · omega
      omega
    unfold norm
    rw [if_neg (by omega)]
    omega
  have hokx : OkIp ((((l.take n).set 8 (rd l 8 - 1)).set 10 (t % 65536 / 256)).set 11 (t % 256)) := by
    have a0 := rdx 0 (by omega) (by decide) (by decide) (by decide)
    have a6 := rdx 6 (by omega) (by decide) (by decide) (by decide)
    have a2 := w2x 2 (by omega) (by omega)
    unfold OkIp
    rw [topx, hlx, Int.toNat_natCast, tk]
    refine ⟨by omega, ?_, ?_, by omega, hsum, ?_, ?_, ?_⟩
    · exact Int.le_trans h2 (Int.le_of_eq a0.symm)
    · exact Int.le_trans (Int.le_of_eq a0) h3
    · exact Int.le_trans (by omega) (Int.le_of_eq (a2.trans hn).symm)
    · exact Int.lt_of_le_of_lt (Int.le_of_eq a6) h7
    · exact Int.le_of_eq (a2.trans hn)
  rw [getIp_ok hokx]
  unfold fullIp
  have c1 : rd ((((l.take n).set 8 (rd l 8 - 1)).set 10 (t % 65536 / 256)).set 11 (t % 256)) 1 = rd l 1 := rdx 1 (by omega) (by decide) (by decide) (by decide)
  have c6 : rd ((((l.take n).set 8 (rd l 8 - 1)).set 10 (t % 65536 / 256)).set 11 (t % 256)) 6 = rd l 6 := rdx 6 (by omega) (by decide) (by decide) (by decide)
  have c8 : rd ((((l.take n).set 8 (rd l 8 - 1)).set 10 (t % 65536 / 256)).set 11 (t % 256)) 8 = rd l 8 - 1 := r8
  have c9 : rd ((((l.take n).set 8 (rd l 8 - 1)).set 10 (t % 65536 / 256)).set 11 (t % 256)) 9 = rd l 9 := rdx 9 (by omega) (by decide) (by decide) (by decide)
  have d2 : w2 ((((l.take n).set 8 (rd l 8 - 1)).set 10 (t % 65536 / 256)).set 11 (t % 256)) 2 = n := (w2x 2 (by omega) (by omega)).trans hn
  have d4 : w2 ((((l.take n).set 8 (rd l 8 - 1)).set 10 (t % 65536 / 256)).set 11 (t % 256)) 4 = w2 l 4 := w2x 4 (by omega) (by omega)
  have d6 : w2 ((((l.take n).set 8 (rd l 8 - 1)).set 10 (t % 65536 / 256)).set 11 (t % 256)) 6 = w2 l 6 := w2x 6 (by omega) (by omega)
  have d12 : w2 ((((l.take n).set 8 (rd l 8 - 1)).set 10 (t % 65536 / 256)).set 11 (t % 256)) 12 = w2 l 12 := w2x 12 (by omega) (by omega)
  have d14 : w2 ((((l.take n).set 8 (rd l 8 - 1)).set 10 (t % 65536 / 256)).set 11 (t % 256)) 14 = w2 l 14 := w2x 14 (by omega) (by omega)
  have d16 : w2 ((((l.take n).set 8 (rd l 8 - 1)).set 10 (t % 65536 / 256)).set 11 (t % 256)) 16 = w2 l 16 := w2x 16 (by omega) (by omega)
  have d18 : w2 ((((l.take n).set 8 (rd l 8 - 1)).set 10 (t % 65536 / 256)).set 11 (t % 256)) 18 = w2 l 18 := w2x 18 (by omega) (by omega)
  rw [topx, c1, c6, c8, c9, d2, d4, d6, d12, d14, d16, d18, Int.toNat_natCast, Int.toNat_natCast, tk]
  have o1 : ((((l.take m).set 8 (rd l 8 - 1)).set 10 (t % 65536 / 256)).set 11 (t % 256)).drop 20 = (l.take m).drop 20 := by
    rw [List.drop_set_of_lt (by omega), List.drop_set_of_lt (by omega), List.drop_set_of_lt (by omega)]
  have o2 : (((((l.take n).set 8 (rd l 8 - 1)).set 10 (t % 65536 / 256)).set 11 (t % 256)).take n).drop m = (l.take n).drop m := by
    rw [List.take_of_length_le (by rw [hlx]; omega), List.drop_set_of_lt (by omega), List.drop_set_of_lt (by omega), List.drop_set_of_lt (by omega)]
  rw [o1, o2]
end Go.Proofs.Ytdphjljbdodonaa.PIpL
namespace Go.Proofs.Ytdphjljbdodonaa.Pure
open Go.RowKit Go.Proofs.Ytdphjljbdodonaa.PIpL Go.Proofs.YtdphjljbdodonaaW.PrintWords Go.Proofs.YtdphjljbdodonaaW.PrintLast Go.Proofs.YtdphjljbdodonaaW.PrintMore Go.Proofs.Ytdphjljbdodonaa.Ar Go.Proofs.Ytdphjljbdodonaa.HSum Go.Proofs.Ytdphjljbdodonaa.HExt
set_option linter.unusedVariables false
set_option linter.unusedSimpArgs false

theorem IpLives : towropelaw06_IpLives.Pure := by
  intro l _ hl hw
  have h := bytesB_wf hw
  refine ⟨l.length + 30, ?_⟩
  unfold towropelaw06_IpLives.f
  by_cases h7 : (l.length : Int) > 70000
  · rw [if_pos h7, show l.length + 30 = l.length + 20 + 10 by omega, ip_live, Option.bind_some]
  rw [if_neg h7, show l.length + 30 = l.length + 23 + 7 by omega, iplive_f (l.length + 23) l h (by omega), Option.bind_some, reflive_f _ l h (by omega) (by omega), Option.bind_some, ipcode_f, Option.bind_some, if_pos rfl, bne_self_eq_false]
  simp only [towropelaw06_IpLives.j0]
  rw [if_neg (by decide)]
  unfold liveS
  rcases getIp_cases l with ⟨e, he, hg⟩ | ⟨hok, hg⟩
  · rw [hg]
    unfold noIp
    rw [if_neg he, if_neg he, show l.length + 29 = l.length + 19 + 10 by omega, ip_live, Option.bind_some]
  · have hz : (getIp l).2.2.2.2.2.2.2.2.2.2.2 = 0 := by rw [hg]; rfl
    rw [if_pos hz]
    by_cases h81 : rd l 8 ≤ 1
    · rw [if_pos h81, if_neg (by decide), show l.length + 29 = l.length + 19 + 10 by omega, ip_live, Option.bind_some]
    · rw [if_neg h81, if_pos rfl]
      have hB : Bytes l := fun x hx => bytesB_mem h hx
      have b8 := hB.at_ 8
      obtain ⟨hxb, hxl, hx⟩ := live_ok h hok (by omega)
      rw [show l.length + 29 = l.length + 22 + 7 by omega, ipget_f (l.length + 22) l h (by omega), Option.bind_some, ipget_f (l.length + 22) (liveB l) hxb (by omega), Option.bind_some, hx, hg]
      unfold fullIp
      rw [ipcode_f, Option.bind_some, Option.bind_some]
      dsimp only
      rw [if_pos (by unfold wrap64; omega), show (rd l 8 - 1) % 256 = rd l 8 - 1 by omega, ipsame_refl, Option.bind_some, if_pos rfl, show l.length + 22 + 7 = l.length + 19 + 10 by omega, ip_live, Option.bind_some]
end Go.Proofs.Ytdphjljbdodonaa.Pure
