/- The net of any address, its last one, its text, and whether another one lies in it, as by definition. No conditions. -/
import Derived.Test.YtcebnaknodghcaaDoorPAdNx1
import Derived.Test.YtcebnaknodghcaaDoorPAdNx2
import Derived.Test.YtcebnaknodghcaaDoorPAdNx3
import Derived.Test.YtcebnaknodghcaaDoorPAdNx4
import Derived.Test.YtcebnaknodghcaaDoorPAdNx5
import Derived.Test.YtcebnaknodghcaaDoorAr
import Derived.Test.YtcebnaknodghcaaDoorHNumber
import Derived.Test.YtcebnaknodghcaaDoorHNum
import Derived.Test.YtcebnaknodghcaaDoorQAddrNets
namespace Go.Proofs.YtcebnaknodghcaaDoor.PAdN
open Go.RowKit Go.Proofs.YtcebnaknodghcaaDoorW.PrintWords Go.Proofs.YtcebnaknodghcaaDoorW.PrintLast Go.Proofs.YtcebnaknodghcaaDoorW.PrintMore Go.Proofs.YtcebnaknodghcaaDoor.Ar Go.Proofs.YtcebnaknodghcaaDoor.HNumber Go.Proofs.YtcebnaknodghcaaDoor.HNum
set_option linter.unusedVariables false
set_option linter.unusedSimpArgs false

/-- A text of its bytes. -/
def B (l : List UInt8) : ByteArray := ⟨l.toArray⟩
theorem B_app (l m : List UInt8) : B l ++ B m = B (l ++ m) := app_txt l m
theorem B_size (l : List UInt8) : (B l).size = l.length := by show l.toArray.size = _; simp
theorem B_list (l : List UInt8) : (B l).data.toList = l := by unfold B; simp
theorem bt_B (p r : List UInt8) (x : UInt8) : bt (B (p ++ x :: r)) (p.length : Int) = (x.toNat : Int) := by
  unfold bt
  have h : (p.length : Int).toNat < (B (p ++ x :: r)).size := by rw [B_size]; simp
  rw [dif_pos h]
  congr 2
  show (p ++ x :: r).toArray[((p.length : Int)).toNat] = x
  simp
def D (n : Nat) : List UInt8 := Lib.decDigits n
theorem D1 (n : Nat) (h : n < 10) : D n = [UInt8.ofNat (48 + n)] := dec_small n h
theorem D2 (n : Nat) (h : ¬ n < 10) : D n = D (n / 10) ++ [UInt8.ofNat (48 + n % 10)] := dec_step n h
theorem itoa_D (n : Nat) : Lib.itoa (n : Int) = D n := by unfold Lib.itoa D; rw [if_neg (by omega), Int.toNat_natCast]
theorem D_len (n : Nat) (h : n < 1000) : (D n).length ≤ 3 := dec_len 3 n (by omega) (by omega)
theorem D_pos (n : Nat) : 0 < (D n).length := by
  by_cases h : n < 10
  · rw [D1 n h]; simp
  · rw [D2 n h]; simp
theorem itoa_f (n : Int) (h0 : -9223372036854775808 ≤ n) (h1 : n ≤ 9223372036854775807) : strconv_Itoa_62.f n = some (B (Lib.itoa n)) := by
  unfold strconv_Itoa_62.f
  rw [if_pos ⟨h0, h1⟩]
  rfl
theorem number_f (k : Nat) (n : Int) (h0 : -9223372036854775808 ≤ n) (h1 : n ≤ 9223372036854775807) : towroperef04_Number.f k n = some (B (Lib.itoa n)) := by
  unfold towroperef04_Number.f
  rw [if_pos ⟨h0, h1⟩]
  rfl
theorem join_f (xs : List ByteArray) (sep : ByteArray) (h : xs.length ≤ 1000) (hl : (Lib.join (xs.map (·.data.toList)) sep.data.toList).length ≤ 100000) : strings_Join.f xs sep = some (B (Lib.join (xs.map (·.data.toList)) sep.data.toList)) := by
  unfold strings_Join.f
  rw [if_pos ⟨by omega, by omega⟩]
  rfl
/-- An address as a text. -/
def txtA (a b c d : Nat) : List UInt8 := D a ++ 46 :: (D b ++ 46 :: (D c ++ 46 :: D d))
theorem shr_u (x : Int) (k : Nat) (p : Int) (hk : k ≤ 32) (hp : (2 : Int) ^ k = p) : shr .u32 x (k : Int) = x / p := by
  unfold shr
  rw [Int.toNat_natCast, show min k IntKind.u32.bits = k by simp [IntKind.bits]; omega, hp]
theorem text_f (k a b c d : Nat) (ha : a < 256) (hb : b < 256) (hc : c < 256) (hd : d < 256) : addr_Text.f (k + 5) (16777216 * (a : Int) + 65536 * b + 256 * c + d) = some (B (txtA a b c d)) := by
  obtain ⟨x, hx⟩ : ∃ x : Int, x = 16777216 * (a : Int) + 65536 * b + 256 * c + d := ⟨_, rfl⟩
  rw [← hx]
  have e0 : wrap64 (24 - wrap64 (8 * 0)) = ((24 : Nat) : Int) := by decide +kernel
  have e1 : wrap64 (24 - wrap64 (8 * 1)) = ((16 : Nat) : Int) := by decide +kernel
  have e2 : wrap64 (24 - wrap64 (8 * 2)) = ((8 : Nat) : Int) := by decide +kernel
  have e3 : wrap64 (24 - wrap64 (8 * 3)) = ((0 : Nat) : Int) := by decide +kernel
  have s0 : shr .u32 x ((24 : Nat) : Int) % 256 = (a : Int) := by rw [shr_u x 24 16777216 (by omega) (by decide)]; omega
  have s1 : shr .u32 x ((16 : Nat) : Int) % 256 = (b : Int) := by rw [shr_u x 16 65536 (by omega) (by decide)]; omega
  have s2 : shr .u32 x ((8 : Nat) : Int) % 256 = (c : Int) := by rw [shr_u x 8 256 (by omega) (by decide)]; omega
  have s3 : shr .u32 x ((0 : Nat) : Int) % 256 = (d : Int) := by rw [shr_u x 0 1 (by omega) (by decide)]; omega
  have w0 : wrap64 (0 + 1) = 1 := by decide +kernel
  have w1 : wrap64 (1 + 1) = 2 := by decide +kernel
  have w2 : wrap64 (2 + 1) = 3 := by decide +kernel
  have w3 : wrap64 (3 + 1) = 4 := by decide +kernel
  have la := D_len a (by omega); have lb := D_len b (by omega); have lc := D_len c (by omega); have ld := D_len d (by omega)
  unfold addr_Text.f
  simp only [addr_Text.l0]
  rw [if_pos (by decide), e0, if_pos (by decide), s0, itoa_f _ (by omega) (by omega), Option.bind_some, if_pos (by simp), w0]
  rw [if_pos (by decide), e1, if_pos (by decide), s1, itoa_f _ (by omega) (by omega), Option.bind_some, if_pos (by simp), w1]
  rw [if_pos (by decide), e2, if_pos (by decide), s2, itoa_f _ (by omega) (by omega), Option.bind_some, if_pos (by simp), w2]
  rw [if_pos (by decide), e3, if_pos (by decide), s3, itoa_f _ (by omega) (by omega), Option.bind_some, if_pos (by simp), w3, if_neg (by decide)]
  rw [itoa_D, itoa_D, itoa_D, itoa_D]
  have hj : Lib.join ((([] ++ [B (D a)] ++ [B (D b)] ++ [B (D c)] ++ [B (D d)]) : List ByteArray).map (·.data.toList)) ((⟨#[46]⟩ : ByteArray).data.toList) = txtA a b c d := by
    simp only [List.nil_append, List.cons_append, List.map_cons, List.map_nil, B_list]
    unfold txtA
    rw [Lib.join_cons]
    simp [Lib.joinTail]
  rw [join_f _ _ (by simp) (by rw [hj]; unfold txtA; simp only [List.length_append, List.length_cons]; omega), hj, Option.bind_some]

/-! ### a number read -/
def numL (a : Nat) (most : Int) : List UInt8 → Int → Nat → Int × Nat
  | [], n, i => (n, i)
  | x :: r, n, i => if (x.toNat : Int) < 48 ∨ 57 < (x.toNat : Int) then (n, i) else if (a < i ∧ n = 0) ∨ most < 10 * n + ((x.toNat : Int) - 48) then (n, i) else numL a most r (10 * n + ((x.toNat : Int) - 48)) (i + 1)
theorem numF_L (a : Nat) (most : Int) : ∀ (r p : List UInt8) (n : Int), numF (B (p ++ r)) a most ((B (p ++ r)).size - p.length) n p.length = numL a most r n p.length
  | [], p, n => by rw [List.append_nil, B_size, Nat.sub_self]; rfl
  | x :: r, p, n => by
    have ih := numF_L a most r (p ++ [x])
    rw [List.append_assoc, List.length_append] at ih
    simp only [List.cons_append, List.nil_append, List.length_cons, List.length_nil, Nat.zero_add] at ih
    rw [B_size, List.length_append, List.length_cons, show p.length + (r.length + 1) - p.length = r.length + 1 by omega]
    simp only [numF, numL]
    rw [if_pos (by rw [B_size, List.length_append, List.length_cons]; omega), bt_B]
    have := ih (10 * n + ((x.toNat : Int) - 48))
    rw [B_size, List.length_append, List.length_cons, show p.length + (r.length + 1) - (p.length + 1) = r.length by omega] at this
    rw [this]
/-- What stops a number. -/
def Stops : List UInt8 → Prop
  | [] => True
  | x :: _ => (x.toNat : Int) < 48 ∨ 57 < (x.toNat : Int)
theorem numL_stop {a : Nat} {most : Int} {q : List UInt8} (h : Stops q) (n : Int) (i : Nat) : numL a most q n i = (n, i) := by
  cases q with
  | nil => rfl
  | cons x r => simp only [numL]; rw [if_pos (show (x.toNat : Int) < 48 ∨ 57 < (x.toNat : Int) from h)]
theorem digit_num (d : Nat) (h : d < 10) : ((UInt8.ofNat (48 + d)).toNat : Int) = 48 + d := by
  show (((48 + d) % 256 : Nat) : Int) = _
  omega
theorem numL_one {a : Nat} {most : Int} (q : List UInt8) (d : Nat) (h : d < 10) (n : Int) (i : Nat) (hz : a < i → n ≠ 0) (hm : 10 * n + d ≤ most) : numL a most (UInt8.ofNat (48 + d) :: q) n i = numL a most q (10 * n + d) (i + 1) := by
  simp only [numL]
  have hne : ¬ ((a < i ∧ n = 0) ∨ most < 10 * n + ((48 : Int) + d - 48)) := by
    rintro (h1 | h1)
    · exact hz h1.1 h1.2
    · omega
  rw [digit_num d h, if_neg (by omega), if_neg hne, show (48 : Int) + d - 48 = d by omega]
theorem numL_D {a : Nat} {most : Int} {q : List UInt8} (hq : Stops q) (n : Nat) (h : n < 1000) (hm : (n : Int) ≤ most) : numL a most (D n ++ q) 0 a = ((n : Int), a + (D n).length) := by
  by_cases h1 : n < 10
  · rw [D1 n h1]
    show numL a most (UInt8.ofNat (48 + n) :: q) 0 a = _
    rw [numL_one q n h1 0 a (by omega) (by omega), numL_stop hq]
    simp
  · by_cases h2 : n < 100
    · rw [D2 n h1, D1 (n / 10) (by omega)]
      show numL a most (UInt8.ofNat (48 + n / 10) :: UInt8.ofNat (48 + n % 10) :: q) 0 a = _
      rw [numL_one _ (n / 10) (by omega) 0 a (by omega) (by omega), numL_one _ (n % 10) (by omega) _ _ (by omega) (by omega), numL_stop hq]
      simp only [List.length_append, List.length_cons, List.length_nil, Prod.mk.injEq]
      constructor <;> first | omega | trivial
    · rw [D2 n h1, D2 (n / 10) (by omega), D1 (n / 10 / 10) (by omega)]
      show numL a most (UInt8.ofNat (48 + n / 10 / 10) :: UInt8.ofNat (48 + n / 10 % 10) :: UInt8.ofNat (48 + n % 10) :: q) 0 a = _
      rw [numL_one _ (n / 10 / 10) (by omega) 0 a (by omega) (by omega), numL_one _ (n / 10 % 10) (by omega) _ _ (by omega) (by omega), numL_one _ (n % 10) (by omega) _ _ (by omega) (by omega), numL_stop hq]
      simp only [List.length_append, List.length_cons, List.length_nil, Prod.mk.injEq]
      constructor <;> first | omega | trivial
theorem num_f (p q : List UInt8) (hq : Stops q) (n : Nat) (most : Int) (h : n < 1000) (hm : (n : Int) ≤ most) (m1 : most ≤ 1000) (hl : (p ++ (D n ++ q)).length ≤ 100000) :
    addr_number.f (B (p ++ (D n ++ q))) (p.length : Int) most = some ((n : Int), ((p.length + (D n).length : Nat) : Int), true) := by
  have hp := D_pos n
  have hs : (B (p ++ (D n ++ q))).size = (p ++ (D n ++ q)).length := B_size _
  have hle : p.length ≤ (p ++ (D n ++ q)).length := by rw [List.length_append]; omega
  unfold addr_number.f
  rw [if_pos ⟨⟨by omega, by omega, by omega⟩, by omega, m1⟩, Int.toNat_natCast, numF_L, numL_D hq n h hm, show decide (p.length < p.length + (D n).length) = true from decide_eq_true (by omega)]

/-! ### four numbers read -/
theorem u32w_ (n : Int) : IntKind.u32.wrap n = n % 4294967296 := by simp [IntKind.wrap, IntKind.bits, IntKind.signed]
theorem or8u (x b : Int) (x0 : 0 ≤ x) (x1 : x ≤ 16777215) (b0 : 0 ≤ b) (b1 : b ≤ 255) : Go.bits .or .u32 (x * 256 % 4294967296) (b % 4294967296) = x * 256 + b := by
  rw [show x * 256 % 4294967296 = x * 256 by omega, show b % 4294967296 = b by omega]
  exact bits_join .u32 32 (by decide) (fun n h0 h1 => by rw [u32w_]; omega) 8 (x * 256) b (by omega) (by omega) (by omega) b0 (by omega) (by omega)
theorem wrap_len (x : Nat) (h : x ≤ 100000) : wrap64 ((x : Int) + 1) = ((x + 1 : Nat) : Int) := by rw [w64 (by omega) (by omega)]; omega
theorem stops_dot (r : List UInt8) : Stops (46 :: r) := .inl (by decide)
theorem quad_first (k : Nat) (s : ByteArray) (x3 n nx : Int) (h : addr_number.f s x3 255 = some (n, nx, true)) (n0 : 0 ≤ n) (n1 : n ≤ 255) : addr_quad.l0 (k + 1) s 0 x3 0 = addr_quad.l0 k s n nx 1 := by
  have w0 : wrap64 (0 + 1) = 1 := by decide +kernel
  simp only [addr_quad.l0]
  rw [if_pos (by decide), if_neg (by decide), h, Option.bind_some]
  dsimp only
  rw [if_pos rfl, w0, or8u 0 n (by omega) (by omega) n0 n1, show (0 : Int) * 256 + n = n by omega]
theorem quad_next (k : Nat) (s : ByteArray) (x2 x3 y n nx i j : Int) (i0 : 0 < i) (i1 : i < 4) (p0 : 0 ≤ x3) (p1 : x3 < (s.size : Int)) (hb : bt s x3 = 46) (hy : wrap64 (x3 + 1) = y) (hj : wrap64 (i + 1) = j) (h : addr_number.f s y 255 = some (n, nx, true)) (n0 : 0 ≤ n) (n1 : n ≤ 255) (q0 : 0 ≤ x2) (q1 : x2 ≤ 16777215) :
    addr_quad.l0 (k + 2) s x2 x3 i = addr_quad.l0 k s (x2 * 256 + n) nx j := by
  simp only [addr_quad.l0, addr_quad.j1]
  rw [if_pos i1, if_pos i0, if_neg (by omega), if_pos p0, if_pos p1, hb, show ((46 : Int) != 46) = false from rfl, if_neg (by simp), hy, h, Option.bind_some]
  dsimp only
  rw [if_pos rfl, hj, or8u x2 n q0 q1 n0 n1]
theorem quad_end (k : Nat) (s : ByteArray) (x2 x3 : Int) : addr_quad.l0 (k + 1) s x2 x3 4 = some (x2, x3, true) := by
  simp only [addr_quad.l0]
  rw [if_neg (by decide)]
/-- What a number's text gives, wherever it stands. -/
def Reads (L : List UInt8) (n : Int) : Prop := ∀ p q : List UInt8, Stops q → (p ++ (L ++ q)).length ≤ 100000 → addr_number.f (B (p ++ (L ++ q))) (p.length : Int) 255 = some (n, ((p.length + L.length : Nat) : Int), true)
theorem quad_gen (k : Nat) (L0 L1 L2 L3 t : List UInt8) (a b c d : Int) (ht : Stops t) (hl : t.length ≤ 100) (l0 : L0.length ≤ 3) (l1 : L1.length ≤ 3) (l2 : L2.length ≤ 3) (l3 : L3.length ≤ 3) (N0 : Reads L0 a) (N1 : Reads L1 b) (N2 : Reads L2 c) (N3 : Reads L3 d)
    (ha : 0 ≤ a ∧ a ≤ 255) (hb : 0 ≤ b ∧ b ≤ 255) (hc : 0 ≤ c ∧ c ≤ 255) (hd : 0 ≤ d ∧ d ≤ 255) :
    addr_quad.f (k + 9) (B ((L0 ++ 46 :: (L1 ++ 46 :: (L2 ++ 46 :: L3))) ++ t)) = some (16777216 * a + 65536 * b + 256 * c + d, ((L0.length + 1 + L1.length + 1 + L2.length + 1 + L3.length : Nat) : Int), true) := by
  have w1 : wrap64 (1 + 1) = 2 := by decide +kernel
  have w2 : wrap64 (2 + 1) = 3 := by decide +kernel
  have w3 : wrap64 (3 + 1) = 4 := by decide +kernel
  obtain ⟨T, hT⟩ : ∃ T, T = (L0 ++ 46 :: (L1 ++ 46 :: (L2 ++ 46 :: L3))) ++ t := ⟨_, rfl⟩
  have hL : T.length = L0.length + 1 + L1.length + 1 + L2.length + 1 + L3.length + t.length := by rw [hT]; simp only [List.length_append, List.length_cons]; omega
  have t0 : T = [] ++ (L0 ++ (46 :: (L1 ++ 46 :: (L2 ++ 46 :: L3)) ++ t)) := by rw [hT]; simp only [List.append_assoc, List.cons_append, List.nil_append]
  have t1 : T = (L0 ++ [46]) ++ (L1 ++ (46 :: (L2 ++ 46 :: L3) ++ t)) := by rw [hT]; simp only [List.append_assoc, List.cons_append, List.nil_append]
  have t2 : T = (L0 ++ [46] ++ (L1 ++ [46])) ++ (L2 ++ (46 :: L3 ++ t)) := by rw [hT]; simp only [List.append_assoc, List.cons_append, List.nil_append]
  have t3 : T = (L0 ++ [46] ++ (L1 ++ [46]) ++ (L2 ++ [46])) ++ (L3 ++ t) := by rw [hT]; simp only [List.append_assoc, List.cons_append, List.nil_append]
  have m1 : (L0 ++ [46]).length = L0.length + 1 := by simp only [List.length_append, List.length_cons, List.length_nil]
  have m2 : (L0 ++ [46] ++ (L1 ++ [46])).length = L0.length + 1 + L1.length + 1 := by simp only [List.length_append, List.length_cons, List.length_nil]; omega
  have m3 : (L0 ++ [46] ++ (L1 ++ [46]) ++ (L2 ++ [46])).length = L0.length + 1 + L1.length + 1 + L2.length + 1 := by simp only [List.length_append, List.length_cons, List.length_nil]; omega
  have n0 := N0 [] (46 :: (L1 ++ 46 :: (L2 ++ 46 :: L3)) ++ t) (stops_dot _) (by rw [← t0]; omega)
  have n1 := N1 (L0 ++ [46]) (46 :: (L2 ++ 46 :: L3) ++ t) (stops_dot _) (by rw [← t1]; omega)
  have n2 := N2 (L0 ++ [46] ++ (L1 ++ [46])) (46 :: L3 ++ t) (stops_dot _) (by rw [← t2]; omega)
  have n3 := N3 (L0 ++ [46] ++ (L1 ++ [46]) ++ (L2 ++ [46])) t ht (by rw [← t3]; omega)
  rw [← t0, List.length_nil, Nat.zero_add] at n0
  rw [← t1, m1] at n1
  rw [← t2, m2] at n2
  rw [← t3, m3] at n3
  have b1 : bt (B T) ((L0.length : Nat) : Int) = 46 := by
    have e : T = L0 ++ 46 :: ((L1 ++ 46 :: (L2 ++ 46 :: L3)) ++ t) := by rw [hT]; simp only [List.append_assoc, List.cons_append]
    rw [e]; exact bt_B L0 _ 46
  have b2 : bt (B T) ((L0.length + 1 + L1.length : Nat) : Int) = 46 := by
    have e : T = (L0 ++ [46] ++ L1) ++ 46 :: ((L2 ++ 46 :: L3) ++ t) := by rw [hT]; simp only [List.append_assoc, List.cons_append, List.nil_append]
    rw [e, ← show (L0 ++ [46] ++ L1).length = L0.length + 1 + L1.length by simp only [List.length_append, List.length_cons, List.length_nil]]; exact bt_B _ _ 46
  have b3 : bt (B T) ((L0.length + 1 + L1.length + 1 + L2.length : Nat) : Int) = 46 := by
    have e : T = (L0 ++ [46] ++ (L1 ++ [46]) ++ L2) ++ 46 :: (L3 ++ t) := by rw [hT]; simp only [List.append_assoc, List.cons_append, List.nil_append]
    rw [e, ← show (L0 ++ [46] ++ (L1 ++ [46]) ++ L2).length = L0.length + 1 + L1.length + 1 + L2.length by simp only [List.length_append, List.length_cons, List.length_nil]; omega]; exact bt_B _ _ 46
  have hs : (B T).size = T.length := B_size T
  rw [← hT]
  clear hT t0 t1 t2 t3 m1 m2 m3 N0 N1 N2 N3
  generalize B T = s at *
  generalize L0.length = x0 at *
  generalize L1.length = x1 at *
  generalize L2.length = x2 at *
  generalize L3.length = x3 at *
  generalize T.length = xT at *
  have n0 : addr_number.f s 0 255 = some (a, (x0 : Int), true) := n0
  unfold addr_quad.f
  rw [show k + 9 = (k + 1 + 1 + 2 + 2 + 2) + 1 from rfl, quad_first _ _ 0 a _ n0 ha.1 ha.2]
  rw [quad_next (k + 1 + 1 + 2 + 2) _ a _ _ b _ 1 2 (by decide) (by decide) (Int.natCast_nonneg _) (by omega) b1 (wrap_len x0 (by omega)) w1 n1 hb.1 hb.2 (by omega) (by omega)]
  rw [quad_next (k + 1 + 1 + 2) _ (a * 256 + b) _ _ c _ 2 3 (by decide) (by decide) (Int.natCast_nonneg _) (by omega) b2 (wrap_len _ (by omega)) w2 n2 hc.1 hc.2 (by omega) (by omega)]
  rw [quad_next (k + 1 + 1) _ ((a * 256 + b) * 256 + c) _ _ d _ 3 4 (by decide) (by decide) (Int.natCast_nonneg _) (by omega) b3 (wrap_len _ (by omega)) w3 n3 hd.1 hd.2 (by omega) (by omega)]
  rw [quad_end, show ((a * 256 + b) * 256 + c) * 256 + d = 16777216 * a + 65536 * b + 256 * c + d by omega]
theorem reads_D (n : Nat) (h : n < 256) : Reads (D n) (n : Int) := fun p q hq hl => num_f p q hq n 255 (by omega) (by omega) (by omega) hl
theorem txtA_len (a b c d : Nat) : (txtA a b c d).length = (D a).length + 1 + (D b).length + 1 + (D c).length + 1 + (D d).length := by
  unfold txtA
  generalize D a = A
  generalize D b = B'
  generalize D c = C
  generalize D d = E
  simp only [List.length_append, List.length_cons]
  omega
theorem quad_f (k a b c d : Nat) (t : List UInt8) (ht : Stops t) (hl : t.length ≤ 100) (ha : a < 256) (hb : b < 256) (hc : c < 256) (hd : d < 256) :
    addr_quad.f (k + 9) (B (txtA a b c d ++ t)) = some (16777216 * (a : Int) + 65536 * b + 256 * c + d, (((txtA a b c d).length : Nat) : Int), true) := by
  rw [txtA_len]
  exact quad_gen k (D a) (D b) (D c) (D d) t a b c d ht hl (D_len a (by omega)) (D_len b (by omega)) (D_len c (by omega)) (D_len d (by omega)) (reads_D a ha) (reads_D b hb) (reads_D c hc) (reads_D d hd) (by omega) (by omega) (by omega) (by omega)
theorem addr_code (x : Int) : towropelaw05_code.f x = some x := rfl
theorem addr_live (k : Nat) : towropelaw05_live.f (k + 10) = some true := by
  have hp : addr_Parse.f (k + 10) ⟨#[49, 48, 46, 48, 46, 48, 46, 50, 53, 54]⟩ = some (0, 3, 9) := by
    induction k with
    | zero => decide +kernel
    | succ k ih => exact addr_Parse.mono _ (k + 10) _ ih
  have ht := text_f (k + 5) 10 0 0 1 (by omega) (by omega) (by omega) (by omega)
  unfold towropelaw05_live.f
  rw [hp, Option.bind_some, show ((167772161 : Int)) = 16777216 * ((10 : Nat) : Int) + 65536 * ((0 : Nat) : Int) + 256 * ((0 : Nat) : Int) + ((1 : Nat) : Int) by decide, ht, Option.bind_some]
  have e : (B (txtA 10 0 0 1)).toList = [49, 48, 46, 48, 46, 48, 46, 49] := by
    have e1 : txtA 10 0 0 1 = [49, 48, 46, 48, 46, 48, 46, 49] := by unfold txtA; rw [D2 10 (by omega), D1 (10 / 10) (by omega), D1 0 (by omega)]; rfl
    rw [e1]
    decide +kernel
  rw [if_pos e, addr_code, Option.bind_some, if_pos rfl]
  rfl
end Go.Proofs.YtcebnaknodghcaaDoor.PAdN
namespace Go.Proofs.YtcebnaknodghcaaDoor.PAdN
open Go.RowKit Go.Proofs.YtcebnaknodghcaaDoorW.PrintWords Go.Proofs.YtcebnaknodghcaaDoorW.PrintLast Go.Proofs.YtcebnaknodghcaaDoorW.PrintMore Go.Proofs.YtcebnaknodghcaaDoor.Ar
set_option linter.unusedVariables false
set_option linter.unusedSimpArgs false

theorem and_high (x n : Nat) (hx : x < 4294967296) (hn : n ≤ 32) : x &&& (4294967296 - 2 ^ n) = x / 2 ^ n * 2 ^ n := by
  have e : 4294967296 - 2 ^ n = 2 ^ n * (2 ^ (32 - n) - 1) := by
    rw [Nat.mul_sub, ← Nat.pow_add, Nat.mul_one, show n + (32 - n) = 32 by omega]
  rw [e, Nat.mul_comm (x / 2 ^ n)]
  apply Nat.eq_of_testBit_eq
  intro i
  rw [Nat.testBit_and, Nat.testBit_two_pow_mul, Nat.testBit_two_pow_sub_one, Nat.testBit_two_pow_mul, Nat.testBit_div_two_pow]
  by_cases h : n ≤ i
  · rw [decide_eq_true (show i ≥ n from h), Bool.true_and, Bool.true_and, show i - n + n = i by omega]
    by_cases h2 : i - n < 32 - n
    · rw [decide_eq_true h2, Bool.and_true]
    · have : x.testBit i = false := Nat.testBit_lt_two_pow (Nat.lt_of_lt_of_le hx (by rw [show 4294967296 = 2 ^ 32 by decide]; exact Nat.pow_le_pow_right (by decide) (by omega)))
      rw [this, Bool.false_and]
  · rw [decide_eq_false (show ¬ i ≥ n from h), Bool.false_and, Bool.and_false, Bool.false_and]
theorem or_low (x n : Nat) : x ||| (2 ^ n - 1) = x / 2 ^ n * 2 ^ n + (2 ^ n - 1) := by
  have hp : 0 < 2 ^ n := Nat.two_pow_pos n
  rw [Nat.mul_comm (x / 2 ^ n)]
  apply Nat.eq_of_testBit_eq
  intro i
  rw [Nat.testBit_or, Nat.testBit_two_pow_mul_add _ (by omega), Nat.testBit_two_pow_sub_one, Nat.testBit_div_two_pow]
  by_cases h : i < n
  · rw [if_pos h, decide_eq_true h, Bool.or_true]
  · rw [if_neg h, decide_eq_false h, Bool.or_false, show i - n + n = i by omega]
theorem xor_high : ∀ n : Fin 33, 4294967295 ^^^ (4294967296 - 2 ^ n.val) = 2 ^ n.val - 1 := by decide +kernel
theorem u32w2 (n : Int) : IntKind.u32.wrap n = n % 4294967296 := by simp [IntKind.wrap, IntKind.bits, IntKind.signed]
theorem bits_nat (op : Nat → Nat → Nat) (a b : Nat) (ha : a < 4294967296) (hb : b < 4294967296) : (BitVec.ofInt 32 (a : Int)).toNat = a ∧ (BitVec.ofInt 32 (b : Int)).toNat = b := by
  constructor
  · rw [BitVec.ofInt_natCast, BitVec.toNat_ofNat]; omega
  · rw [BitVec.ofInt_natCast, BitVec.toNat_ofNat]; omega
theorem and32 (a b : Nat) (ha : a < 4294967296) (hb : b < 4294967296) : Go.bits .and .u32 (a : Int) (b : Int) = ((a &&& b : Nat) : Int) := by
  obtain ⟨h1, h2⟩ := bits_nat (· &&& ·) a b ha hb
  show IntKind.u32.wrap (((BitVec.ofInt 32 (a : Int) &&& BitVec.ofInt 32 (b : Int)).toNat : Nat) : Int) = _
  rw [BitVec.toNat_and, h1, h2, u32w2]
  have : a &&& b ≤ a := Nat.and_le_left
  omega
theorem or32 (a b : Nat) (ha : a < 4294967296) (hb : b < 4294967296) : Go.bits .or .u32 (a : Int) (b : Int) = ((a ||| b : Nat) : Int) := by
  obtain ⟨h1, h2⟩ := bits_nat (· ||| ·) a b ha hb
  show IntKind.u32.wrap (((BitVec.ofInt 32 (a : Int) ||| BitVec.ofInt 32 (b : Int)).toNat : Nat) : Int) = _
  rw [BitVec.toNat_or, h1, h2, u32w2]
  have : a ||| b < 2 ^ 32 := Nat.or_lt_two_pow (by simpa using ha) (by simpa using hb)
  omega
theorem xor32 (a b : Nat) (ha : a < 4294967296) (hb : b < 4294967296) : Go.bits .xor .u32 (a : Int) (b : Int) = ((a ^^^ b : Nat) : Int) := by
  obtain ⟨h1, h2⟩ := bits_nat (· ^^^ ·) a b ha hb
  show IntKind.u32.wrap (((BitVec.ofInt 32 (a : Int) ^^^ BitVec.ofInt 32 (b : Int)).toNat : Nat) : Int) = _
  rw [BitVec.toNat_xor, h1, h2, u32w2]
  have : a ^^^ b < 2 ^ 32 := Nat.xor_lt_two_pow (by simpa using ha) (by simpa using hb)
  omega
theorem mask_f (n : Nat) (hn : n ≤ 32) : addr_mask.f (32 - (n : Int)) = some (((4294967296 - 2 ^ n : Nat)) : Int) := by
  have e : wrap64 (32 - (32 - (n : Int))) = (n : Int) := by rw [w64 (by omega) (by omega)]; omega
  have h : ∀ m : Fin 33, shl .u32 4294967295 ((m.val : Nat) : Int) = ((4294967296 - 2 ^ m.val : Nat) : Int) := by decide +kernel
  unfold addr_mask.f
  rw [e, if_pos (by omega)]
  exact congrArg some (h ⟨n, by omega⟩)
theorem right_f (n : Nat) (hn : n ≤ 32) : addr_right.f (32 - (n : Int)) = some true := by
  unfold addr_right.f
  rw [if_pos (by omega), decide_eq_true (by omega)]
theorem pow_le32 (n : Nat) (hn : n ≤ 32) : 0 < 2 ^ n ∧ 2 ^ n ≤ 4294967296 := ⟨Nat.two_pow_pos n, by rw [show 4294967296 = 2 ^ 32 by decide]; exact Nat.pow_le_pow_right (by decide) hn⟩
theorem net_f (a n : Nat) (ha : a < 4294967296) (hn : n ≤ 32) : addr_Net.f (a : Int) (32 - (n : Int)) = some (((a / 2 ^ n * 2 ^ n : Nat) : Int), 0) := by
  obtain ⟨p0, p1⟩ := pow_le32 n hn
  unfold addr_Net.f
  rw [right_f n hn, Option.bind_some, if_pos rfl, mask_f n hn, Option.bind_some, and32 _ _ ha (by omega), and_high a n ha hn]
theorem last_f (a n : Nat) (ha : a < 4294967296) (hn : n ≤ 32) : addr_Last.f (a : Int) (32 - (n : Int)) = some (((a / 2 ^ n * 2 ^ n + (2 ^ n - 1) : Nat) : Int), 0) := by
  obtain ⟨p0, p1⟩ := pow_le32 n hn
  have hx := xor_high ⟨n, by omega⟩
  unfold addr_Last.f
  rw [right_f n hn, Option.bind_some, if_pos rfl, mask_f n hn, Option.bind_some, show (4294967295 : Int) = ((4294967295 : Nat) : Int) from rfl, xor32 _ _ (by omega) (by omega)]
  simp only at hx
  rw [hx, or32 _ _ ha (by omega), or_low a n]
theorem xor_div (a b n : Nat) : (a ^^^ b) / 2 ^ n = 0 ↔ a / 2 ^ n = b / 2 ^ n := by
  rw [← Nat.shiftRight_eq_div_pow, ← Nat.shiftRight_eq_div_pow, ← Nat.shiftRight_eq_div_pow, Nat.shiftRight_xor_distrib]
  constructor
  · intro h
    have := congrArg (· ^^^ (b >>> n)) h
    simpa [Nat.xor_assoc] using this
  · intro h; rw [h, Nat.xor_self]
theorem in_f (a b n : Nat) (ha : a < 4294967296) (hb : b < 4294967296) (hn : n ≤ 32) : addr_In.f (a : Int) (b : Int) (32 - (n : Int)) = some (decide (a / 2 ^ n = b / 2 ^ n)) := by
  obtain ⟨p0, p1⟩ := pow_le32 n hn
  have hx : a ^^^ b < 4294967296 := by have : a ^^^ b < 2 ^ 32 := Nat.xor_lt_two_pow (by simpa using ha) (by simpa using hb); omega
  unfold addr_In.f
  rw [right_f n hn, Option.bind_some, if_pos rfl, mask_f n hn, Option.bind_some, xor32 _ _ ha hb, and32 _ _ hx (by omega), and_high _ n hx hn]
  congr 1
  rw [Bool.eq_iff_iff, beq_iff_eq, decide_eq_true_iff, ← xor_div]
  constructor
  · intro h
    rcases Nat.mul_eq_zero.1 (Int.ofNat_eq_zero.1 h) with h | h
    · exact h
    · omega
  · intro h; rw [h, Nat.zero_mul]; rfl
end Go.Proofs.YtcebnaknodghcaaDoor.PAdN
namespace Go.Proofs.YtcebnaknodghcaaDoor.Pure
open Go.RowKit Go.Proofs.YtcebnaknodghcaaDoor.PAdN Go.Proofs.YtcebnaknodghcaaDoorW.PrintWords Go.Proofs.YtcebnaknodghcaaDoorW.PrintLast Go.Proofs.YtcebnaknodghcaaDoorW.PrintMore Go.Proofs.YtcebnaknodghcaaDoor.Ar Go.Proofs.YtcebnaknodghcaaDoor.HNumber Go.Proofs.YtcebnaknodghcaaDoor.HNum
set_option linter.unusedVariables false
set_option linter.unusedSimpArgs false

theorem nwf_u32 {x : Int} (h : (Lit.int .u32 x).wf = true) : 0 ≤ x ∧ x ≤ 4294967295 := by simpa [Lit.wf, IntKind.min, IntKind.max, IntKind.signed, IntKind.bits] using h
theorem nwf_i64 {x : Int} (h : (Lit.int .i64 x).wf = true) : -9223372036854775808 ≤ x ∧ x ≤ 9223372036854775807 := by simpa [Lit.wf, IntKind.min, IntKind.max, IntKind.signed, IntKind.bits] using h
theorem quads (x : Nat) (h : x < 4294967296) : ∃ a b c d : Nat, a < 256 ∧ b < 256 ∧ c < 256 ∧ d < 256 ∧ (x : Int) = 16777216 * (a : Int) + 65536 * b + 256 * c + d :=
  ⟨x / 16777216, x / 65536 % 256, x / 256 % 256, x % 256, by omega, by omega, by omega, by omega, by omega⟩
theorem reftext_g (k a b c d : Nat) (ha : a < 256) (hb : b < 256) (hc : c < 256) (hd : d < 256) : towroperef05_Text.f k (16777216 * (a : Int) + 65536 * b + 256 * c + d) = some (B (txtA a b c d)) := by
  obtain ⟨x, hx⟩ : ∃ x : Int, x = 16777216 * (a : Int) + 65536 * b + 256 * c + d := ⟨_, rfl⟩
  rw [← hx]
  have w0 : wrap64 x = x := w64 (by omega) (by omega)
  have e0 : wrap64 (Int.tdiv (wrap64 x) 16777216) = (a : Int) := by rw [w0, td _ _ (by omega), w64 (by omega) (by omega)]; omega
  have e1 : Int.tmod (wrap64 (Int.tdiv (wrap64 x) 65536)) 256 = (b : Int) := by rw [w0, td _ _ (by omega), w64 (by omega) (by omega), tm _ _ (by omega)]; omega
  have e2 : Int.tmod (wrap64 (Int.tdiv (wrap64 x) 256)) 256 = (c : Int) := by rw [w0, td _ _ (by omega), w64 (by omega) (by omega), tm _ _ (by omega)]; omega
  have e3 : Int.tmod (wrap64 x) 256 = (d : Int) := by rw [w0, tm _ _ (by omega)]; omega
  have la := D_len a (by omega); have lb := D_len b (by omega); have lc := D_len c (by omega); have ld := D_len d (by omega)
  have hdot : (⟨#[46]⟩ : ByteArray) = B [46] := rfl
  unfold towroperef05_Text.f
  rw [e0, e1, e2, e3, number_f k _ (by omega) (by omega), Option.bind_some, itoa_D, number_f k _ (by omega) (by omega), Option.bind_some, itoa_D, number_f k _ (by omega) (by omega), Option.bind_some, itoa_D, number_f k _ (by omega) (by omega), Option.bind_some, itoa_D, hdot]
  simp only [B_app, B_size, List.length_append, List.length_cons, List.length_nil]
  rw [if_pos (by omega), if_pos (by omega), if_pos (by omega), if_pos (by omega), if_pos (by omega), if_pos (by omega)]
  unfold txtA
  simp only [List.append_assoc, List.cons_append, List.nil_append]
theorem txtA_le (a b c d : Nat) (ha : a < 256) (hb : b < 256) (hc : c < 256) (hd : d < 256) : (txtA a b c d).length ≤ 15 := by
  have la := D_len a (by omega); have lb := D_len b (by omega); have lc := D_len c (by omega); have ld := D_len d (by omega)
  rw [txtA_len]
  generalize (D a).length = p at *
  generalize (D b).length = q at *
  generalize (D c).length = r at *
  generalize (D d).length = s at *
  omega
/-! ### the size of a net -/
theorem size_loop (N : Nat) (hN : N ≤ 32) : ∀ (d k : Nat), d ≤ N → d < k → towroperef05_Size.l0 k ((2 ^ (N - d) : Nat) : Int) (32 - (d : Int)) = some ((2 ^ N : Nat) : Int) := by
  intro d
  induction d with
  | zero =>
    intro k _ hk
    obtain ⟨k, rfl⟩ : ∃ m, k = m + 1 := ⟨k - 1, by omega⟩
    simp only [towroperef05_Size.l0]
    rw [if_neg (by omega)]
    rfl
  | succ d ih =>
    intro k hd hk
    obtain ⟨k, rfl⟩ : ∃ m, k = m + 1 := ⟨k - 1, by omega⟩
    obtain ⟨p0, p1⟩ := pow_le32 (N - (d + 1)) (by omega)
    simp only [towroperef05_Size.l0]
    rw [if_pos (by omega), w64 (n := 2 * ((2 ^ (N - (d + 1)) : Nat) : Int)) (by omega) (by omega), w64 (n := 32 - (((d + 1 : Nat)) : Int) + 1) (by omega) (by omega)]
    have e : 2 * ((2 ^ (N - (d + 1)) : Nat) : Int) = ((2 ^ (N - d) : Nat) : Int) := by
      rw [show N - d = N - (d + 1) + 1 by omega, Nat.pow_succ]; omega
    rw [e, show 32 - (((d + 1 : Nat)) : Int) + 1 = 32 - (d : Int) by omega]
    exact ih k (by omega) (by omega)
theorem size_f (k N : Nat) (hN : N ≤ 32) : towroperef05_Size.f (k + 33) (32 - (N : Int)) = some ((2 ^ N : Nat) : Int) := by
  unfold towroperef05_Size.f
  have := size_loop N hN N (k + 33) (Nat.le_refl _) (by omega)
  rw [Nat.sub_self] at this
  exact this
theorem refnet_f (k a N : Nat) (ha : a < 4294967296) (hN : N ≤ 32) : towroperef05_Net.f (k + 33) (a : Int) (32 - (N : Int)) = some ((a / 2 ^ N * 2 ^ N : Nat) : Int) := by
  obtain ⟨p0, p1⟩ := pow_le32 N hN
  have h1 : a / 2 ^ N * 2 ^ N ≤ a := Nat.div_mul_le_self _ _
  have h2 : a / 2 ^ N ≤ a := Nat.div_le_self _ _
  unfold towroperef05_Net.f
  rw [size_f k N hN, Option.bind_some, if_neg (by omega), w64 (n := (a : Int)) (by omega) (by omega), td _ _ (by omega), ← Int.natCast_ediv]
  generalize a / 2 ^ N = z at *
  generalize 2 ^ N = P at *
  rw [w64 (n := (z : Int)) (by omega) (by omega), ← Int.natCast_mul, w64 (by omega) (by omega)]
  congr 1
  omega
/-! ### the text of a net, read again -/
theorem nettext_f (k x n a b c d : Nat) (hx : x < 4294967296) (hn : n ≤ 32) (ha : a < 256) (hb : b < 256) (hc : c < 256) (hd : d < 256) (he : ((x / 2 ^ n * 2 ^ n : Nat) : Int) = 16777216 * (a : Int) + 65536 * b + 256 * c + d) :
    addr_NetText.f (k + 5) (x : Int) (32 - (n : Int)) = some (B (txtA a b c d ++ 47 :: D (32 - n)), 0) := by
  have hl := txtA_le a b c d ha hb hc hd
  have hD := D_len (32 - n) (by omega)
  have hsl : (⟨#[47]⟩ : ByteArray) = B [47] := rfl
  unfold addr_NetText.f
  rw [net_f x n hx hn, Option.bind_some]
  dsimp only
  rw [if_pos rfl, he, text_f k a b c d ha hb hc hd, Option.bind_some, itoa_f _ (by omega) (by omega), show (32 - (n : Int)) = ((32 - n : Nat) : Int) by omega, itoa_D, hsl]
  simp only [B_app, B_size, List.length_append, List.length_cons, List.length_nil, Option.bind_some]
  rw [if_pos (by omega), if_pos (by omega)]
  simp only [List.append_assoc, List.cons_append, List.nil_append]
theorem stops_slash (r : List UInt8) : Stops (47 :: r) := .inl (by decide)
theorem andnot_zero (q n : Nat) (hx : q * 2 ^ n < 4294967296) (hn : n ≤ 32) : Go.bits .andNot .u32 ((q * 2 ^ n : Nat) : Int) ((4294967296 - 2 ^ n : Nat) : Int) = 0 := by
  obtain ⟨p0, p1⟩ := pow_le32 n hn
  obtain ⟨h1, h2⟩ := Go.Proofs.YtcebnaknodghcaaDoor.PAdN.bits_nat (· &&& ·) (q * 2 ^ n) (4294967296 - 2 ^ n) hx (by omega)
  show IntKind.u32.wrap (((BitVec.ofInt 32 ((q * 2 ^ n : Nat) : Int) &&& ~~~ BitVec.ofInt 32 ((4294967296 - 2 ^ n : Nat) : Int)).toNat : Nat) : Int) = 0
  rw [BitVec.toNat_and, BitVec.toNat_not, h1, h2, u32w2]
  have e : 2 ^ 32 - 1 - (4294967296 - 2 ^ n) = 2 ^ n - 1 := by omega
  rw [e, Nat.and_two_pow_sub_one_eq_mod, Nat.mul_mod_left]
  rfl
theorem parsenet_f (k n a b c d q : Nat) (hn : n ≤ 32) (ha : a < 256) (hb : b < 256) (hc : c < 256) (hd : d < 256) (he : ((q * 2 ^ n : Nat) : Int) = 16777216 * (a : Int) + 65536 * b + 256 * c + d) :
    addr_ParseNet.f (k + 9) (B (txtA a b c d ++ 47 :: D (32 - n))) = some (((q * 2 ^ n : Nat) : Int), 32 - (n : Int), 0, (((B (txtA a b c d ++ 47 :: D (32 - n))).size : Nat) : Int)) := by
  have hl := txtA_le a b c d ha hb hc hd
  have hD := D_len (32 - n) (by omega)
  have hDp := D_pos (32 - n)
  have hx : q * 2 ^ n < 4294967296 := by omega
  have hsz : (B (txtA a b c d ++ 47 :: D (32 - n))).size = (txtA a b c d).length + 1 + (D (32 - n)).length := by rw [B_size, List.length_append, List.length_cons]; omega
  have hq := quad_f k a b c d (47 :: D (32 - n)) (stops_slash _) (by rw [List.length_cons]; omega) ha hb hc hd
  have hbt := bt_B (txtA a b c d) (D (32 - n)) 47
  have hnum := num_f (txtA a b c d ++ [47]) [] trivial (32 - n) 32 (by omega) (by omega) (by omega) (by simp only [List.length_append, List.length_cons, List.length_nil]; omega)
  have e1 : txtA a b c d ++ [47] ++ (D (32 - n) ++ []) = txtA a b c d ++ 47 :: D (32 - n) := by simp only [List.append_nil, List.append_assoc, List.cons_append, List.nil_append]
  rw [e1, List.length_append, List.length_cons, List.length_nil] at hnum
  generalize B (txtA a b c d ++ 47 :: D (32 - n)) = s at *
  generalize (txtA a b c d).length = p at *
  generalize (D (32 - n)).length = u at *
  clear e1
  have hand := andnot_zero q n hx hn
  have hmask := mask_f n hn
  unfold addr_ParseNet.f
  rw [hq, Option.bind_some]
  dsimp only
  rw [if_pos rfl, if_neg (by omega), if_pos (by omega), if_pos (by omega), hbt, show ((((47 : UInt8).toNat : Nat) : Int) != 47) = false from by decide]
  simp only [addr_ParseNet.j0]
  rw [if_neg (by simp), wrap_len p (by omega), show (((p + 1 : Nat)) : Int) = ((p + (0 + 1) : Nat) : Int) from rfl, hnum, Option.bind_some]
  dsimp only
  rw [if_pos rfl, show ((((p + (0 + 1) + u : Nat)) : Int) != (s.size : Int)) = false from by rw [bne_eq_false_iff_eq]; omega]
  simp only [addr_ParseNet.j1]
  rw [if_neg (by simp), show (((32 - n : Nat)) : Int) = 32 - (n : Int) by omega, hmask, Option.bind_some, ← he, hand, if_pos rfl, show (((p + (0 + 1) + u : Nat)) : Int) = (s.size : Int) by omega]

/-! ### the last address and what lies within -/
theorem last_lt (x N : Nat) (hx : x < 4294967296) (hN : N ≤ 32) : x / 2 ^ N * 2 ^ N + (2 ^ N - 1) < 4294967296 := by
  obtain ⟨p0, p1⟩ := pow_le32 N hN
  have e : (4294967296 : Nat) = 2 ^ (32 - N) * 2 ^ N := by rw [← Nat.pow_add, show 32 - N + N = 32 by omega]
  have hq : x / 2 ^ N < 2 ^ (32 - N) := Nat.div_lt_of_lt_mul (by rw [Nat.mul_comm, ← e]; exact hx)
  have := Nat.mul_le_mul_right (2 ^ N) (Nat.succ_le_of_lt hq)
  rw [← e, Nat.succ_mul] at this
  omega
theorem within (y q P : Nat) (hP : 0 < P) : y / P = q ↔ (q * P ≤ y ∧ y ≤ q * P + (P - 1)) := by
  constructor
  · rintro rfl
    have h1 := Nat.div_add_mod y P
    have h2 := Nat.mod_lt y hP
    rw [Nat.mul_comm] at h1
    generalize y / P * P = z at *
    omega
  · rintro ⟨h1, h2⟩
    exact Nat.div_eq_of_lt_le h1 (by rw [Nat.succ_mul]; omega)
theorem bad_j (k : Nat) (x y bits : Int) (hi : addr_In.f y x bits = some false) : towropelaw05_AddrNets.j0 (k + 10 + 1) bits x y 0 1 0 1 ⟨#[]⟩ 1 true = some true := by
  simp only [towropelaw05_AddrNets.j0]
  rw [if_pos (by simp), addr_code, Option.bind_some, if_pos (by first | trivial | simp), Option.bind_some, if_pos (by first | trivial | simp), Option.bind_some, if_pos (by first | trivial | simp), if_pos (by first | trivial | simp), if_pos (by first | trivial | simp), if_pos (by decide +kernel), hi, Option.bind_some, if_neg (by simp), addr_live, Option.bind_some]
theorem good_j (k x y N a b c d : Nat) (hx : x < 4294967296) (hy : y < 4294967296) (hN : N ≤ 32) (ha : a < 256) (hb : b < 256) (hc : c < 256) (hd : d < 256)
    (he : ((x / 2 ^ N * 2 ^ N : Nat) : Int) = 16777216 * (a : Int) + 65536 * b + 256 * c + d) :
    towropelaw05_AddrNets.j0 (k + 33 + 1) (32 - (N : Int)) (x : Int) (y : Int) ((x / 2 ^ N * 2 ^ N : Nat) : Int) 0 ((x / 2 ^ N * 2 ^ N + (2 ^ N - 1) : Nat) : Int) 0 (B (txtA a b c d ++ 47 :: D (32 - N))) 0 false = some true := by
  obtain ⟨p0, p1⟩ := pow_le32 N hN
  have hL := last_lt x N hx hN
  have hsl : (⟨#[47]⟩ : ByteArray) = B [47] := rfl
  have hl := txtA_le a b c d ha hb hc hd
  have hD := D_len (32 - N) (by omega)
  have hpn := parsenet_f (k + 24) N a b c d (x / 2 ^ N) hN ha hb hc hd he
  rw [show k + 24 + 9 = k + 33 by omega] at hpn
  have hlv := addr_live (k + 23)
  rw [show k + 23 + 10 = k + 33 by omega] at hlv
  have hlast : wrap64 (wrap64 (wrap64 ((x / 2 ^ N * 2 ^ N : Nat) : Int) + ((2 ^ N : Nat) : Int)) - 1) % 4294967296 = ((x / 2 ^ N * 2 ^ N + (2 ^ N - 1) : Nat) : Int) := by
    generalize x / 2 ^ N * 2 ^ N = Q at *
    generalize 2 ^ N = P at *
    clear he hpn hl hD
    rw [w64 (n := (Q : Int)) (by omega) (by omega), w64 (n := (Q : Int) + (P : Int)) (by omega) (by omega), w64 (by omega) (by omega)]
    omega
  have hw := within y (x / 2 ^ N) (2 ^ N) p0
  simp only [towropelaw05_AddrNets.j0]
  rw [if_neg (by simp), refnet_f k x N hx hN, Option.bind_some, size_f k N hN, Option.bind_some, hpn, Option.bind_some]
  dsimp only
  rw [addr_code, Option.bind_some, Option.bind_some, Option.bind_some, if_pos (by decide +kernel), if_pos rfl, hlast, if_pos rfl, in_f y x N hy hx hN, Option.bind_some]
  have hnum : towroperef04_Number.f (k + 33) (32 - (N : Int)) = some (B (D (32 - N))) := by
    rw [number_f _ _ (by omega) (by omega), show (32 - (N : Int)) = ((32 - N : Nat) : Int) by omega, itoa_D]
  have htx := reftext_g (k + 33) a b c d ha hb hc hd
  rw [← he] at htx
  have hcat : (B (txtA a b c d) ++ B [47]) ++ B (D (32 - N)) = B (txtA a b c d ++ 47 :: D (32 - N)) := by rw [B_app, B_app, List.append_assoc]; rfl
  have hs1 : (B (txtA a b c d)).size + 1 ≤ 9223372036854775807 := by rw [B_size]; omega
  have hs2 : (B (txtA a b c d) ++ B [47]).size + (B (D (32 - N))).size ≤ 9223372036854775807 := by rw [B_app, B_size, B_size, List.length_append, List.length_cons, List.length_nil]; omega
  rw [htx, Option.bind_some, if_pos hs1, hnum, Option.bind_some, hsl, if_pos hs2, hcat, if_pos rfl, if_pos rfl, if_pos rfl, hlv, Option.bind_some, if_pos rfl, if_pos rfl, Option.bind_some]
  clear hpn htx hcat hs1 hs2 hnum hl hD he hlast
  generalize x / 2 ^ N * 2 ^ N = Q at *
  generalize 2 ^ N = P at *
  by_cases c : (y : Int) ≥ (Q : Int)
  · rw [if_pos c]
    by_cases e : y / P = x / P
    · rw [decide_eq_true e, decide_eq_true (by have := hw.1 e; omega), if_pos (by decide)]
    · rw [decide_eq_false e, decide_eq_false (fun h => e (hw.2 (by omega))), if_pos (by decide)]
  · rw [if_neg c, decide_eq_false (fun e => c (by have := hw.1 e; omega)), if_pos (by decide)]
theorem AddrNets : AddrNetsSt := by
  intro x y bits hx hy hb
  obtain ⟨x0, x1⟩ := nwf_u32 hx
  obtain ⟨y0, y1⟩ := nwf_u32 hy
  obtain ⟨b0, b1⟩ := nwf_i64 hb
  by_cases hbad : bits < 0 ∨ 32 < bits
  · have hr : addr_right.f bits = some false := by
      unfold addr_right.f
      by_cases h : bits ≥ 0
      · rw [if_pos h, decide_eq_false (by omega)]
      · rw [if_neg h]
    have hn : addr_Net.f x bits = some (0, 1) := by unfold addr_Net.f; rw [hr, Option.bind_some, if_neg (by simp)]
    have hl : addr_Last.f x bits = some (0, 1) := by unfold addr_Last.f; rw [hr, Option.bind_some, if_neg (by simp)]
    have hi : addr_In.f y x bits = some false := by unfold addr_In.f; rw [hr, Option.bind_some, if_neg (by simp)]
    have ht : addr_NetText.f (0 + 10 + 1) x bits = some (⟨#[]⟩, 1) := by unfold addr_NetText.f; rw [hn, Option.bind_some]; exact if_neg (show ¬ (1 : Int) = 0 by decide)
    have hj := bad_j 0 x y bits hi
    refine ⟨0 + 10 + 1, ?_⟩
    unfold towropelaw05_AddrNets.f
    rw [hn, Option.bind_some, hl, Option.bind_some, ht, Option.bind_some]
    dsimp only
    by_cases c : bits < 0
    · rw [if_pos c]; exact hj
    · rw [if_neg c, decide_eq_true (by omega)]; exact hj
  · obtain ⟨N, hN, rfl⟩ : ∃ N : Nat, N ≤ 32 ∧ bits = 32 - (N : Int) := ⟨(32 - bits).toNat, by omega, by omega⟩
    obtain ⟨x, rfl⟩ : ∃ n : Nat, x = n := ⟨x.toNat, by omega⟩
    obtain ⟨y, rfl⟩ : ∃ n : Nat, y = n := ⟨y.toNat, by omega⟩
    have hx2 : x < 4294967296 := by omega
    have hy2 : y < 4294967296 := by omega
    have hQ := Nat.div_mul_le_self x (2 ^ N)
    obtain ⟨a, b, c, d, ha, hb, hc, hd, he⟩ := quads (x / 2 ^ N * 2 ^ N) (by omega)
    have ht := nettext_f (0 + 29) x N a b c d hx2 hN ha hb hc hd he
    have hj := good_j 0 x y N a b c d hx2 hy2 hN ha hb hc hd he
    refine ⟨0 + 33 + 1, ?_⟩
    unfold towropelaw05_AddrNets.f
    rw [net_f x N hx2 hN, Option.bind_some, last_f x N hx2 hN, Option.bind_some, show (0 + 33 + 1 : Nat) = 0 + 29 + 5 from rfl, ht, Option.bind_some]
    dsimp only
    rw [if_neg (by omega), decide_eq_false (by omega)]
    exact hj
end Go.Proofs.YtcebnaknodghcaaDoor.Pure
