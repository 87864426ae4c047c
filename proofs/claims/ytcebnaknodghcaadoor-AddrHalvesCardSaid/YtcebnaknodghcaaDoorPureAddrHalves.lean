/- A net is its two halves, and nothing lies in both. No conditions. -/
import Derived.Test.YtcebnaknodghcaaDoorPAddrx1
import Derived.Test.YtcebnaknodghcaaDoorPAddrx2
import Derived.Test.YtcebnaknodghcaaDoorAr
import Derived.Test.YtcebnaknodghcaaDoorHNumber
import Derived.Test.YtcebnaknodghcaaDoorHNum
import Derived.Test.YtcebnaknodghcaaDoorQAddrHalves
namespace Go.Proofs.YtcebnaknodghcaaDoor.PAddr
open Go.RowKit Go.Proofs.YtcebnaknodghcaaDoorW.PrintWords Go.Proofs.YtcebnaknodghcaaDoorW.PrintLast Go.Proofs.YtcebnaknodghcaaDoorW.PrintMore Go.Proofs.YtcebnaknodghcaaDoor.Ar Go.Proofs.YtcebnaknodghcaaDoor.HNumber Go.Proofs.YtcebnaknodghcaaDoor.HNum
set_option linter.unusedVariables false
set_option linter.unusedSimpArgs false

/-- A text of its bytes. -/
def B (l : List UInt8) : ByteArray := ⟨l.toArray⟩
theorem B_list (l : List UInt8) : (B l).data.toList = l := by unfold B; simp
def D (n : Nat) : List UInt8 := Lib.decDigits n
theorem D1 (n : Nat) (h : n < 10) : D n = [UInt8.ofNat (48 + n)] := dec_small n h
theorem D2 (n : Nat) (h : ¬ n < 10) : D n = D (n / 10) ++ [UInt8.ofNat (48 + n % 10)] := dec_step n h
theorem itoa_D (n : Nat) : Lib.itoa (n : Int) = D n := by unfold Lib.itoa D; rw [if_neg (by omega), Int.toNat_natCast]
theorem D_len (n : Nat) (h : n < 1000) : (D n).length ≤ 3 := dec_len 3 n (by omega) (by omega)
theorem itoa_f (n : Int) (h0 : -9223372036854775808 ≤ n) (h1 : n ≤ 9223372036854775807) : strconv_Itoa_62.f n = some (B (Lib.itoa n)) := by
  unfold strconv_Itoa_62.f
  rw [if_pos ⟨h0, h1⟩]
  rfl
theorem join_f (xs : List ByteArray) (sep : ByteArray) (h : xs.length ≤ 1000) (hl : (Lib.join (xs.map (·.data.toList)) sep.data.toList).length ≤ 100000) : strings_Join.f xs sep = some (B (Lib.join (xs.map (·.data.toList)) sep.data.toList)) := by
  unfold strings_Join.f
  rw [if_pos ⟨by omega, by omega⟩]
  rfl
/-- An address as a text. -/
def txtA (a b c d : Nat) : List UInt8 := D a ++ 46 :: (D b ++ 46 :: (D c ++ 46 :: D d))
theorem shr_u (x : Int) (k : Nat) (p : Int) (hk : k ≤ 32) (hp : (2 : Int) ^ k = p) : shr .u32 x (k : Int) = x / p := by
  unfold shr
  rw [Int.toNat_natCast, show min k IntKind.u32.bits = k by simp [IntKind.bits]; omega, hp]
theorem text_f (k a b c d : Nat) (ha : a < 256) (hb : b < 256) (hc : c < 256) (hd : d < 256) : addr_Text.f (k + 5) (16777216 * (a : Int) + 65536 * b + 256 * c + d) = some (B (txtA a b c d)) := by
  obtain ⟨x, hx⟩ : ∃ x : Int, x = 16777216 * (a : Int) + 65536 * b + 256 * c + d := ⟨_, rfl⟩
  rw [← hx]
  have e0 : wrap64 (24 - wrap64 (8 * 0)) = ((24 : Nat) : Int) := by decide +kernel
  have e1 : wrap64 (24 - wrap64 (8 * 1)) = ((16 : Nat) : Int) := by decide +kernel
  have e2 : wrap64 (24 - wrap64 (8 * 2)) = ((8 : Nat) : Int) := by decide +kernel
  have e3 : wrap64 (24 - wrap64 (8 * 3)) = ((0 : Nat) : Int) := by decide +kernel
  have s0 : shr .u32 x ((24 : Nat) : Int) % 256 = (a : Int) := by rw [shr_u x 24 16777216 (by omega) (by decide)]; omega
  have s1 : shr .u32 x ((16 : Nat) : Int) % 256 = (b : Int) := by rw [shr_u x 16 65536 (by omega) (by decide)]; omega
  have s2 : shr .u32 x ((8 : Nat) : Int) % 256 = (c : Int) := by rw [shr_u x 8 256 (by omega) (by decide)]; omega
  have s3 : shr .u32 x ((0 : Nat) : Int) % 256 = (d : Int) := by rw [shr_u x 0 1 (by omega) (by decide)]; omega
  have w0 : wrap64 (0 + 1) = 1 := by decide +kernel
  have w1 : wrap64 (1 + 1) = 2 := by decide +kernel
  have w2 : wrap64 (2 + 1) = 3 := by decide +kernel
  have w3 : wrap64 (3 + 1) = 4 := by decide +kernel
  have la := D_len a (by omega); have lb := D_len b (by omega); have lc := D_len c (by omega); have ld := D_len d (by omega)
  unfold addr_Text.f
  simp only [addr_Text.l0]
  rw [if_pos (by decide), e0, if_pos (by decide), s0, itoa_f _ (by omega) (by omega), Option.bind_some, if_pos (by simp), w0]
  rw [if_pos (by decide), e1, if_pos (by decide), s1, itoa_f _ (by omega) (by omega), Option.bind_some, if_pos (by simp), w1]
  rw [if_pos (by decide), e2, if_pos (by decide), s2, itoa_f _ (by omega) (by omega), Option.bind_some, if_pos (by simp), w2]
  rw [if_pos (by decide), e3, if_pos (by decide), s3, itoa_f _ (by omega) (by omega), Option.bind_some, if_pos (by simp), w3, if_neg (by decide)]
  rw [itoa_D, itoa_D, itoa_D, itoa_D]
  have hj : Lib.join ((([] ++ [B (D a)] ++ [B (D b)] ++ [B (D c)] ++ [B (D d)]) : List ByteArray).map (·.data.toList)) ((⟨#[46]⟩ : ByteArray).data.toList) = txtA a b c d := by
    simp only [List.nil_append, List.cons_append, List.map_cons, List.map_nil, B_list]
    unfold txtA
    rw [Lib.join_cons]
    simp [Lib.joinTail]
  rw [join_f _ _ (by simp) (by rw [hj]; unfold txtA; simp only [List.length_append, List.length_cons]; omega), hj, Option.bind_some]

/-! ### a number read -/
theorem addr_code (x : Int) : towropelaw05_code.f x = some x := rfl
theorem addr_live (k : Nat) : towropelaw05_live.f (k + 10) = some true := by
  have hp : addr_Parse.f (k + 10) ⟨#[49, 48, 46, 48, 46, 48, 46, 50, 53, 54]⟩ = some (0, 3, 9) := by
    induction k with
    | zero => decide +kernel
    | succ k ih => exact addr_Parse.mono _ (k + 10) _ ih
  have ht := text_f (k + 5) 10 0 0 1 (by omega) (by omega) (by omega) (by omega)
  unfold towropelaw05_live.f
  rw [hp, Option.bind_some, show ((167772161 : Int)) = 16777216 * ((10 : Nat) : Int) + 65536 * ((0 : Nat) : Int) + 256 * ((0 : Nat) : Int) + ((1 : Nat) : Int) by decide, ht, Option.bind_some]
  have e : (B (txtA 10 0 0 1)).toList = [49, 48, 46, 48, 46, 48, 46, 49] := by
    have e1 : txtA 10 0 0 1 = [49, 48, 46, 48, 46, 48, 46, 49] := by unfold txtA; rw [D2 10 (by omega), D1 (10 / 10) (by omega), D1 0 (by omega)]; rfl
    rw [e1]
    decide +kernel
  rw [if_pos e, addr_code, Option.bind_some, if_pos rfl]
  rfl
end Go.Proofs.YtcebnaknodghcaaDoor.PAddr
namespace Go.Proofs.YtcebnaknodghcaaDoor.PAddr
open Go.RowKit Go.Proofs.YtcebnaknodghcaaDoorW.PrintWords Go.Proofs.YtcebnaknodghcaaDoorW.PrintLast Go.Proofs.YtcebnaknodghcaaDoorW.PrintMore Go.Proofs.YtcebnaknodghcaaDoor.Ar
set_option linter.unusedVariables false
set_option linter.unusedSimpArgs false

theorem and_high (x n : Nat) (hx : x < 4294967296) (hn : n ≤ 32) : x &&& (4294967296 - 2 ^ n) = x / 2 ^ n * 2 ^ n := by
  have e : 4294967296 - 2 ^ n = 2 ^ n * (2 ^ (32 - n) - 1) := by
    rw [Nat.mul_sub, ← Nat.pow_add, Nat.mul_one, show n + (32 - n) = 32 by omega]
  rw [e, Nat.mul_comm (x / 2 ^ n)]
  apply Nat.eq_of_testBit_eq
  intro i
  rw [Nat.testBit_and, Nat.testBit_two_pow_mul, Nat.testBit_two_pow_sub_one, Nat.testBit_two_pow_mul, Nat.testBit_div_two_pow]
  by_cases h : n ≤ i
  · rw [decide_eq_true (show i ≥ n from h), Bool.true_and, Bool.true_and, show i - n + n = i by omega]
    by_cases h2 : i - n < 32 - n
    · rw [decide_eq_true h2, Bool.and_true]
    · have : x.testBit i = false := Nat.testBit_lt_two_pow (Nat.lt_of_lt_of_le hx (by rw [show 4294967296 = 2 ^ 32 by decide]; exact Nat.pow_le_pow_right (by decide) (by omega)))
      rw [this, Bool.false_and]
  · rw [decide_eq_false (show ¬ i ≥ n from h), Bool.false_and, Bool.and_false, Bool.false_and]
theorem or_low (x n : Nat) : x ||| (2 ^ n - 1) = x / 2 ^ n * 2 ^ n + (2 ^ n - 1) := by
  have hp : 0 < 2 ^ n := Nat.two_pow_pos n
  rw [Nat.mul_comm (x / 2 ^ n)]
  apply Nat.eq_of_testBit_eq
  intro i
  rw [Nat.testBit_or, Nat.testBit_two_pow_mul_add _ (by omega), Nat.testBit_two_pow_sub_one, Nat.testBit_div_two_pow]
  by_cases h : i < n
  · rw [if_pos h, decide_eq_true h, Bool.or_true]
  · rw [if_neg h, decide_eq_false h, Bool.or_false, show i - n + n = i by omega]
theorem xor_high : ∀ n : Fin 33, 4294967295 ^^^ (4294967296 - 2 ^ n.val) = 2 ^ n.val - 1 := by decide +kernel
theorem u32w2 (n : Int) : IntKind.u32.wrap n = n % 4294967296 := by simp [IntKind.wrap, IntKind.bits, IntKind.signed]
theorem bits_nat (op : Nat → Nat → Nat) (a b : Nat) (ha : a < 4294967296) (hb : b < 4294967296) : (BitVec.ofInt 32 (a : Int)).toNat = a ∧ (BitVec.ofInt 32 (b : Int)).toNat = b := by
  constructor
  · rw [BitVec.ofInt_natCast, BitVec.toNat_ofNat]; omega
  · rw [BitVec.ofInt_natCast, BitVec.toNat_ofNat]; omega
theorem and32 (a b : Nat) (ha : a < 4294967296) (hb : b < 4294967296) : Go.bits .and .u32 (a : Int) (b : Int) = ((a &&& b : Nat) : Int) := by
  obtain ⟨h1, h2⟩ := bits_nat (· &&& ·) a b ha hb
  show IntKind.u32.wrap (((BitVec.ofInt 32 (a : Int) &&& BitVec.ofInt 32 (b : Int)).toNat : Nat) : Int) = _
  rw [BitVec.toNat_and, h1, h2, u32w2]
  have : a &&& b ≤ a := Nat.and_le_left
  omega
theorem or32 (a b : Nat) (ha : a < 4294967296) (hb : b < 4294967296) : Go.bits .or .u32 (a : Int) (b : Int) = ((a ||| b : Nat) : Int) := by
  obtain ⟨h1, h2⟩ := bits_nat (· ||| ·) a b ha hb
  show IntKind.u32.wrap (((BitVec.ofInt 32 (a : Int) ||| BitVec.ofInt 32 (b : Int)).toNat : Nat) : Int) = _
  rw [BitVec.toNat_or, h1, h2, u32w2]
  have : a ||| b < 2 ^ 32 := Nat.or_lt_two_pow (by simpa using ha) (by simpa using hb)
  omega
theorem xor32 (a b : Nat) (ha : a < 4294967296) (hb : b < 4294967296) : Go.bits .xor .u32 (a : Int) (b : Int) = ((a ^^^ b : Nat) : Int) := by
  obtain ⟨h1, h2⟩ := bits_nat (· ^^^ ·) a b ha hb
  show IntKind.u32.wrap (((BitVec.ofInt 32 (a : Int) ^^^ BitVec.ofInt 32 (b : Int)).toNat : Nat) : Int) = _
  rw [BitVec.toNat_xor, h1, h2, u32w2]
  have : a ^^^ b < 2 ^ 32 := Nat.xor_lt_two_pow (by simpa using ha) (by simpa using hb)
  omega
theorem mask_f (n : Nat) (hn : n ≤ 32) : addr_mask.f (32 - (n : Int)) = some (((4294967296 - 2 ^ n : Nat)) : Int) := by
  have e : wrap64 (32 - (32 - (n : Int))) = (n : Int) := by rw [w64 (by omega) (by omega)]; omega
  have h : ∀ m : Fin 33, shl .u32 4294967295 ((m.val : Nat) : Int) = ((4294967296 - 2 ^ m.val : Nat) : Int) := by decide +kernel
  unfold addr_mask.f
  rw [e, if_pos (by omega)]
  exact congrArg some (h ⟨n, by omega⟩)
theorem right_f (n : Nat) (hn : n ≤ 32) : addr_right.f (32 - (n : Int)) = some true := by
  unfold addr_right.f
  rw [if_pos (by omega), decide_eq_true (by omega)]
theorem pow_le32 (n : Nat) (hn : n ≤ 32) : 0 < 2 ^ n ∧ 2 ^ n ≤ 4294967296 := ⟨Nat.two_pow_pos n, by rw [show 4294967296 = 2 ^ 32 by decide]; exact Nat.pow_le_pow_right (by decide) hn⟩
theorem net_f (a n : Nat) (ha : a < 4294967296) (hn : n ≤ 32) : addr_Net.f (a : Int) (32 - (n : Int)) = some (((a / 2 ^ n * 2 ^ n : Nat) : Int), 0) := by
  obtain ⟨p0, p1⟩ := pow_le32 n hn
  unfold addr_Net.f
  rw [right_f n hn, Option.bind_some, if_pos rfl, mask_f n hn, Option.bind_some, and32 _ _ ha (by omega), and_high a n ha hn]
theorem last_f (a n : Nat) (ha : a < 4294967296) (hn : n ≤ 32) : addr_Last.f (a : Int) (32 - (n : Int)) = some (((a / 2 ^ n * 2 ^ n + (2 ^ n - 1) : Nat) : Int), 0) := by
  obtain ⟨p0, p1⟩ := pow_le32 n hn
  have hx := xor_high ⟨n, by omega⟩
  unfold addr_Last.f
  rw [right_f n hn, Option.bind_some, if_pos rfl, mask_f n hn, Option.bind_some, show (4294967295 : Int) = ((4294967295 : Nat) : Int) from rfl, xor32 _ _ (by omega) (by omega)]
  simp only at hx
  rw [hx, or32 _ _ ha (by omega), or_low a n]
theorem xor_div (a b n : Nat) : (a ^^^ b) / 2 ^ n = 0 ↔ a / 2 ^ n = b / 2 ^ n := by
  rw [← Nat.shiftRight_eq_div_pow, ← Nat.shiftRight_eq_div_pow, ← Nat.shiftRight_eq_div_pow, Nat.shiftRight_xor_distrib]
  constructor
  · intro h
    have := congrArg (· ^^^ (b >>> n)) h
    simpa [Nat.xor_assoc] using this
  · intro h; rw [h, Nat.xor_self]
theorem in_f (a b n : Nat) (ha : a < 4294967296) (hb : b < 4294967296) (hn : n ≤ 32) : addr_In.f (a : Int) (b : Int) (32 - (n : Int)) = some (decide (a / 2 ^ n = b / 2 ^ n)) := by
  obtain ⟨p0, p1⟩ := pow_le32 n hn
  have hx : a ^^^ b < 4294967296 := by have : a ^^^ b < 2 ^ 32 := Nat.xor_lt_two_pow (by simpa using ha) (by simpa using hb); omega
  unfold addr_In.f
  rw [right_f n hn, Option.bind_some, if_pos rfl, mask_f n hn, Option.bind_some, xor32 _ _ ha hb, and32 _ _ hx (by omega), and_high _ n hx hn]
  congr 1
  rw [Bool.eq_iff_iff, beq_iff_eq, decide_eq_true_iff, ← xor_div]
  constructor
  · intro h
    rcases Nat.mul_eq_zero.1 (Int.ofNat_eq_zero.1 h) with h | h
    · exact h
    · omega
  · intro h; rw [h, Nat.zero_mul]; rfl
end Go.Proofs.YtcebnaknodghcaaDoor.PAddr
namespace Go.Proofs.YtcebnaknodghcaaDoor.Pure
open Go.RowKit Go.Proofs.YtcebnaknodghcaaDoor.PAddr Go.Proofs.YtcebnaknodghcaaDoorW.PrintWords Go.Proofs.YtcebnaknodghcaaDoorW.PrintLast Go.Proofs.YtcebnaknodghcaaDoorW.PrintMore Go.Proofs.YtcebnaknodghcaaDoor.Ar Go.Proofs.YtcebnaknodghcaaDoor.HNumber Go.Proofs.YtcebnaknodghcaaDoor.HNum
set_option linter.unusedVariables false
set_option linter.unusedSimpArgs false

theorem wf_u32 {x : Int} (h : (Lit.int .u32 x).wf = true) : 0 ≤ x ∧ x ≤ 4294967295 := by simpa [Lit.wf, IntKind.min, IntKind.max, IntKind.signed, IntKind.bits] using h
theorem wf_u8 {x : Int} (h : (Lit.int .u8 x).wf = true) : 0 ≤ x ∧ x ≤ 255 := by simpa [Lit.wf, IntKind.min, IntKind.max, IntKind.signed, IntKind.bits] using h
theorem halves (x P : Nat) (hP : 0 < P) : (x / (2 * P) * (2 * P)) / P = 2 * (x / (2 * P)) ∧ (x / (2 * P) * (2 * P)) / (2 * P) = x / (2 * P) ∧ (x / (2 * P) * (2 * P) + (2 * P - 1)) / P = 2 * (x / (2 * P)) + 1 := by
  generalize x / (2 * P) = q
  refine ⟨?_, Nat.mul_div_cancel _ (by omega), ?_⟩
  · rw [show q * (2 * P) = 2 * q * P by rw [Nat.mul_comm 2 P, ← Nat.mul_assoc, Nat.mul_comm 2 q, Nat.mul_assoc, Nat.mul_assoc, Nat.mul_comm P 2]]
    exact Nat.mul_div_cancel _ hP
  · rw [show q * (2 * P) + (2 * P - 1) = (P - 1) + (2 * q + 1) * P by
      rw [Nat.add_mul, Nat.one_mul, Nat.mul_assoc 2 q P, Nat.mul_left_comm q 2 P]
      omega]
    rw [Nat.add_mul_div_right _ _ hP, Nat.div_eq_of_lt (by omega), Nat.zero_add]
theorem AddrHalves : AddrHalvesSt := by
  intro x y bits hx hy hb
  obtain ⟨x0, x1⟩ := wf_u32 hx
  obtain ⟨y0, y1⟩ := wf_u32 hy
  obtain ⟨b0, b1⟩ := wf_u8 hb
  obtain ⟨x, rfl⟩ : ∃ n : Nat, x = n := ⟨x.toNat, by omega⟩
  obtain ⟨y, rfl⟩ : ∃ n : Nat, y = n := ⟨y.toNat, by omega⟩
  obtain ⟨M, hM, hM1, em, em1⟩ : ∃ M : Nat, M ≤ 31 ∧ M + 1 ≤ 32 ∧ Int.tmod (wrap64 bits) 32 = 32 - ((M + 1 : Nat) : Int) ∧ wrap64 (Int.tmod (wrap64 bits) 32 + 1) = 32 - (M : Int) := by
    refine ⟨(31 - bits % 32).toNat, by omega, by omega, ?_, ?_⟩
    · rw [w64 (by omega) (by omega), tm _ _ b0]; omega
    · rw [w64 (n := bits) (by omega) (by omega), tm _ _ b0, w64 (by omega) (by omega)]; omega
  obtain ⟨p0, p1⟩ := pow_le32 M (by omega)
  obtain ⟨r0, r1⟩ := pow_le32 (M + 1) hM1
  have hx2 : x < 4294967296 := by omega
  have hy2 : y < 4294967296 := by omega
  have hP : 2 ^ (M + 1) = 2 * 2 ^ M := by rw [Nat.pow_succ]; omega
  obtain ⟨h1, h2, h3⟩ := halves x (2 ^ M) p0
  have hnet : x / 2 ^ (M + 1) * 2 ^ (M + 1) ≤ x := Nat.div_mul_le_self _ _
  have hlast : x / 2 ^ (M + 1) * 2 ^ (M + 1) + (2 ^ (M + 1) - 1) < 4294967296 := by
    have e : (4294967296 : Nat) = 2 ^ (31 - M) * 2 ^ (M + 1) := by rw [← Nat.pow_add, show 31 - M + (M + 1) = 32 by omega]
    have hq : x / 2 ^ (M + 1) < 2 ^ (31 - M) := Nat.div_lt_of_lt_mul (by rw [Nat.mul_comm, ← e]; exact hx2)
    have := Nat.mul_le_mul_right (2 ^ (M + 1)) (Nat.succ_le_of_lt hq)
    rw [← e, Nat.succ_mul] at this
    omega
  have n1 := net_f x (M + 1) hx2 hM1
  have e1 : x / 2 ^ (M + 1) * 2 ^ (M + 1) / 2 ^ (M + 1) = x / 2 ^ (M + 1) := Nat.mul_div_cancel _ r0
  have n2 := last_f (x / 2 ^ (M + 1) * 2 ^ (M + 1)) (M + 1) (by omega) hM1
  rw [e1] at n2
  have n3 := net_f (x / 2 ^ (M + 1) * 2 ^ (M + 1) + (2 ^ (M + 1) - 1)) M hlast (by omega)
  have n4 := in_f y (x / 2 ^ (M + 1) * 2 ^ (M + 1)) M hy2 (by omega) (by omega)
  have hup : (x / 2 ^ (M + 1) * 2 ^ (M + 1) + (2 ^ (M + 1) - 1)) / 2 ^ M * 2 ^ M ≤ x / 2 ^ (M + 1) * 2 ^ (M + 1) + (2 ^ (M + 1) - 1) := Nat.div_mul_le_self _ _
  have n5 := in_f y ((x / 2 ^ (M + 1) * 2 ^ (M + 1) + (2 ^ (M + 1) - 1)) / 2 ^ M * 2 ^ M) M hy2 (by omega) (by omega)
  have n6 := in_f y (x / 2 ^ (M + 1) * 2 ^ (M + 1)) (M + 1) hy2 (by omega) hM1
  rw [e1] at n6
  have e2 : (x / 2 ^ (M + 1) * 2 ^ (M + 1) + (2 ^ (M + 1) - 1)) / 2 ^ M * 2 ^ M / 2 ^ M = 2 * (x / 2 ^ (M + 1)) + 1 := by rw [Nat.mul_div_cancel _ p0, hP]; exact h3
  have e3 : x / 2 ^ (M + 1) * 2 ^ (M + 1) / 2 ^ M = 2 * (x / 2 ^ (M + 1)) := by rw [hP]; exact h1
  have e4 : y / 2 ^ (M + 1) = y / 2 ^ M / 2 := by rw [hP, Nat.mul_comm, Nat.div_div_eq_div_mul]
  rw [e2] at n5
  rw [e3] at n4
  rw [e4] at n6
  refine ⟨10, ?_⟩
  unfold towropelaw05_AddrHalves.f
  rw [em1, em, n1, Option.bind_some]
  dsimp only
  rw [n2, Option.bind_some]
  dsimp only
  rw [n3, Option.bind_some]
  dsimp only
  rw [n4, Option.bind_some, n5, Option.bind_some, addr_code, Option.bind_some, Option.bind_some, Option.bind_some, if_pos (by decide +kernel), n6, Option.bind_some, addr_live 0, Option.bind_some]
  generalize y / 2 ^ M = z
  generalize x / 2 ^ (M + 1) = q
  by_cases c1 : z = 2 * q
  · rw [decide_eq_true c1, if_pos rfl, decide_eq_true (show z / 2 = q by omega), decide_eq_false (show ¬ z = 2 * q + 1 by omega)]
    rfl
  · rw [decide_eq_false c1, if_neg (by simp)]
    by_cases c2 : z = 2 * q + 1
    · rw [decide_eq_true c2, decide_eq_true (show z / 2 = q by omega)]; rfl
    · rw [decide_eq_false c2, decide_eq_false (show ¬ z / 2 = q by omega)]; rfl
end Go.Proofs.YtcebnaknodghcaaDoor.Pure
