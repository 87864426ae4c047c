/- The names of a state, of flags and of an end, against the reference's. No conditions. -/
import Derived.Test.YtcebnaknodghcaaDoorPTelx1
import Derived.Test.YtcebnaknodghcaaDoorPTelx2
import Derived.Test.YtcebnaknodghcaaDoorPTelx3
import Derived.Test.YtcebnaknodghcaaDoorPTelx4
import Derived.Test.YtcebnaknodghcaaDoorPTelx5
import Derived.Test.YtcebnaknodghcaaDoorAr
import Derived.Test.YtcebnaknodghcaaDoorHNumber
import Derived.Test.YtcebnaknodghcaaDoorHNum
import Derived.Test.YtcebnaknodghcaaDoorQTellNames
namespace Go.Proofs.YtcebnaknodghcaaDoor.PTel
open Go.RowKit Go.Proofs.YtcebnaknodghcaaDoorW.PrintWords Go.Proofs.YtcebnaknodghcaaDoorW.PrintLast Go.Proofs.YtcebnaknodghcaaDoorW.PrintMore Go.Proofs.YtcebnaknodghcaaDoor.Ar Go.Proofs.YtcebnaknodghcaaDoor.HNumber Go.Proofs.YtcebnaknodghcaaDoor.HNum
set_option linter.unusedVariables false
set_option linter.unusedSimpArgs false

/-- A text of its bytes. -/
def B (l : List UInt8) : ByteArray := ⟨l.toArray⟩
theorem B_app (l m : List UInt8) : B l ++ B m = B (l ++ m) := app_txt l m
theorem B_size (l : List UInt8) : (B l).size = l.length := by show l.toArray.size = _; simp
theorem B_list (l : List UInt8) : (B l).data.toList = l := by unfold B; simp
def D (n : Nat) : List UInt8 := Lib.decDigits n
theorem D1 (n : Nat) (h : n < 10) : D n = [UInt8.ofNat (48 + n)] := dec_small n h
theorem itoa_D (n : Nat) : Lib.itoa (n : Int) = D n := by unfold Lib.itoa D; rw [if_neg (by omega), Int.toNat_natCast]
theorem D_len (n : Nat) (h : n < 1000) : (D n).length ≤ 3 := dec_len 3 n (by omega) (by omega)
theorem itoa_f (n : Int) (h0 : -9223372036854775808 ≤ n) (h1 : n ≤ 9223372036854775807) : strconv_Itoa_62.f n = some (B (Lib.itoa n)) := by
  unfold strconv_Itoa_62.f
  rw [if_pos ⟨h0, h1⟩]
  rfl
theorem number_f (k : Nat) (n : Int) (h0 : -9223372036854775808 ≤ n) (h1 : n ≤ 9223372036854775807) : towroperef04_Number.f k n = some (B (Lib.itoa n)) := by
  unfold towroperef04_Number.f
  rw [if_pos ⟨h0, h1⟩]
  rfl
theorem join_f (xs : List ByteArray) (sep : ByteArray) (h : xs.length ≤ 1000) (hl : (Lib.join (xs.map (·.data.toList)) sep.data.toList).length ≤ 100000) : strings_Join.f xs sep = some (B (Lib.join (xs.map (·.data.toList)) sep.data.toList)) := by
  unfold strings_Join.f
  rw [if_pos ⟨by omega, by omega⟩]
  rfl
/-- An address as a text. -/
def txtA (a b c d : Nat) : List UInt8 := D a ++ 46 :: (D b ++ 46 :: (D c ++ 46 :: D d))
theorem shr_u (x : Int) (k : Nat) (p : Int) (hk : k ≤ 32) (hp : (2 : Int) ^ k = p) : shr .u32 x (k : Int) = x / p := by
  unfold shr
  rw [Int.toNat_natCast, show min k IntKind.u32.bits = k by simp [IntKind.bits]; omega, hp]
theorem text_f (k a b c d : Nat) (ha : a < 256) (hb : b < 256) (hc : c < 256) (hd : d < 256) : addr_Text.f (k + 5) (16777216 * (a : Int) + 65536 * b + 256 * c + d) = some (B (txtA a b c d)) := by
  obtain ⟨x, hx⟩ : ∃ x : Int, x = 16777216 * (a : Int) + 65536 * b + 256 * c + d := ⟨_, rfl⟩
  rw [← hx]
  have e0 : wrap64 (24 - wrap64 (8 * 0)) = ((24 : Nat) : Int) := by decide +kernel
  have e1 : wrap64 (24 - wrap64 (8 * 1)) = ((16 : Nat) : Int) := by decide +kernel
  have e2 : wrap64 (24 - wrap64 (8 * 2)) = ((8 : Nat) : Int) := by decide +kernel
  have e3 : wrap64 (24 - wrap64 (8 * 3)) = ((0 : Nat) : Int) := by decide +kernel
  have s0 : shr .u32 x ((24 : Nat) : Int) % 256 = (a : Int) := by rw [shr_u x 24 16777216 (by omega) (by decide)]; omega
  have s1 : shr .u32 x ((16 : Nat) : Int) % 256 = (b : Int) := by rw [shr_u x 16 65536 (by omega) (by decide)]; omega
  have s2 : shr .u32 x ((8 : Nat) : Int) % 256 = (c : Int) := by rw [shr_u x 8 256 (by omega) (by decide)]; omega
  have s3 : shr .u32 x ((0 : Nat) : Int) % 256 = (d : Int) := by rw [shr_u x 0 1 (by omega) (by decide)]; omega
  have w0 : wrap64 (0 + 1) = 1 := by decide +kernel
  have w1 : wrap64 (1 + 1) = 2 := by decide +kernel
  have w2 : wrap64 (2 + 1) = 3 := by decide +kernel
  have w3 : wrap64 (3 + 1) = 4 := by decide +kernel
  have la := D_len a (by omega); have lb := D_len b (by omega); have lc := D_len c (by omega); have ld := D_len d (by omega)
  unfold addr_Text.f
  simp only [addr_Text.l0]
  rw [if_pos (by decide), e0, if_pos (by decide), s0, itoa_f _ (by omega) (by omega), Option.bind_some, if_pos (by simp), w0]
  rw [if_pos (by decide), e1, if_pos (by decide), s1, itoa_f _ (by omega) (by omega), Option.bind_some, if_pos (by simp), w1]
  rw [if_pos (by decide), e2, if_pos (by decide), s2, itoa_f _ (by omega) (by omega), Option.bind_some, if_pos (by simp), w2]
  rw [if_pos (by decide), e3, if_pos (by decide), s3, itoa_f _ (by omega) (by omega), Option.bind_some, if_pos (by simp), w3, if_neg (by decide)]
  rw [itoa_D, itoa_D, itoa_D, itoa_D]
  have hj : Lib.join ((([] ++ [B (D a)] ++ [B (D b)] ++ [B (D c)] ++ [B (D d)]) : List ByteArray).map (·.data.toList)) ((⟨#[46]⟩ : ByteArray).data.toList) = txtA a b c d := by
    simp only [List.nil_append, List.cons_append, List.map_cons, List.map_nil, B_list]
    unfold txtA
    rw [Lib.join_cons]
    simp [Lib.joinTail]
  rw [join_f _ _ (by simp) (by rw [hj]; unfold txtA; simp only [List.length_append, List.length_cons]; omega), hj, Option.bind_some]

/-! ### a number read -/
theorem txtA_len (a b c d : Nat) : (txtA a b c d).length = (D a).length + 1 + (D b).length + 1 + (D c).length + 1 + (D d).length := by
  unfold txtA
  generalize D a = A
  generalize D b = B'
  generalize D c = C
  generalize D d = E
  simp only [List.length_append, List.length_cons]
  omega
end Go.Proofs.YtcebnaknodghcaaDoor.PTel
namespace Go.Proofs.YtcebnaknodghcaaDoor.Pure
open Go.RowKit Go.Proofs.YtcebnaknodghcaaDoor.PTel Go.Proofs.YtcebnaknodghcaaDoorW.PrintWords Go.Proofs.YtcebnaknodghcaaDoorW.PrintLast Go.Proofs.YtcebnaknodghcaaDoorW.PrintMore Go.Proofs.YtcebnaknodghcaaDoor.Ar Go.Proofs.YtcebnaknodghcaaDoor.HNumber
set_option linter.unusedVariables false
set_option linter.unusedSimpArgs false
theorem state_small : ∀ n : Fin 10, tell_State.f ((n.val : Nat) : Int) = towroperef34_State.f ((n.val : Nat) : Int) ∧ (tell_State.f ((n.val : Nat) : Int)).isSome = true := by decide +kernel
theorem flags_all : ∀ n : Fin 256, tell_Flags.f 12 ((n.val : Nat) : Int) = towroperef34_Flags.f 12 ((n.val : Nat) : Int) ∧ (tell_Flags.f 12 ((n.val : Nat) : Int)).isSome = true := by decide +kernel
theorem state_eq (x : Int) : tell_State.f x = towroperef34_State.f x ∧ (tell_State.f x).isSome = true := by
  by_cases h : 0 ≤ x ∧ x ≤ 9
  · obtain ⟨n, rfl⟩ : ∃ n : Nat, x = n := ⟨x.toNat, by omega⟩
    exact state_small ⟨n, by omega⟩
  · unfold tell_State.f towroperef34_State.f
    simp only [Option.bind_some, List.length_cons, List.length_nil]
    by_cases c : x < 0
    · rw [if_pos c, if_pos c]; exact ⟨rfl, rfl⟩
    · rw [if_neg c, if_neg c, if_pos (by omega), if_pos (by omega)]; exact ⟨rfl, rfl⟩
theorem quads (x : Nat) (h : x < 4294967296) : ∃ a b c d : Nat, a < 256 ∧ b < 256 ∧ c < 256 ∧ d < 256 ∧ (x : Int) = 16777216 * (a : Int) + 65536 * b + 256 * c + d :=
  ⟨x / 16777216, x / 65536 % 256, x / 256 % 256, x % 256, by omega, by omega, by omega, by omega, by omega⟩
theorem reftext_g (k a b c d : Nat) (ha : a < 256) (hb : b < 256) (hc : c < 256) (hd : d < 256) : towroperef05_Text.f k (16777216 * (a : Int) + 65536 * b + 256 * c + d) = some (B (txtA a b c d)) := by
  obtain ⟨x, hx⟩ : ∃ x : Int, x = 16777216 * (a : Int) + 65536 * b + 256 * c + d := ⟨_, rfl⟩
  rw [← hx]
  have w0 : wrap64 x = x := w64 (by omega) (by omega)
  have e0 : wrap64 (Int.tdiv (wrap64 x) 16777216) = (a : Int) := by rw [w0, td _ _ (by omega), w64 (by omega) (by omega)]; omega
  have e1 : Int.tmod (wrap64 (Int.tdiv (wrap64 x) 65536)) 256 = (b : Int) := by rw [w0, td _ _ (by omega), w64 (by omega) (by omega), tm _ _ (by omega)]; omega
  have e2 : Int.tmod (wrap64 (Int.tdiv (wrap64 x) 256)) 256 = (c : Int) := by rw [w0, td _ _ (by omega), w64 (by omega) (by omega), tm _ _ (by omega)]; omega
  have e3 : Int.tmod (wrap64 x) 256 = (d : Int) := by rw [w0, tm _ _ (by omega)]; omega
  have la := D_len a (by omega); have lb := D_len b (by omega); have lc := D_len c (by omega); have ld := D_len d (by omega)
  have hdot : (⟨#[46]⟩ : ByteArray) = B [46] := rfl
  unfold towroperef05_Text.f
  rw [e0, e1, e2, e3, number_f k _ (by omega) (by omega), Option.bind_some, itoa_D, number_f k _ (by omega) (by omega), Option.bind_some, itoa_D, number_f k _ (by omega) (by omega), Option.bind_some, itoa_D, number_f k _ (by omega) (by omega), Option.bind_some, itoa_D, hdot]
  simp only [B_app, B_size, List.length_append, List.length_cons, List.length_nil]
  rw [if_pos (by omega), if_pos (by omega), if_pos (by omega), if_pos (by omega), if_pos (by omega), if_pos (by omega)]
  unfold txtA
  simp only [List.append_assoc, List.cons_append, List.nil_append]
theorem txtA_le (a b c d : Nat) (ha : a < 256) (hb : b < 256) (hc : c < 256) (hd : d < 256) : (txtA a b c d).length ≤ 15 := by
  have la := D_len a (by omega); have lb := D_len b (by omega); have lc := D_len c (by omega); have ld := D_len d (by omega)
  rw [txtA_len]
  generalize (D a).length = p at *
  generalize (D b).length = q at *
  generalize (D c).length = r at *
  generalize (D d).length = s at *
  omega
theorem num_g (n : Nat) (h : n < 100000) : tell_num.f (n : Int) = some (B (D n)) := by
  unfold tell_num.f
  rw [itoa_f _ (by omega) (by omega), Option.bind_some, itoa_D]
theorem end_eq (k a b c d p : Nat) (ha : a < 256) (hb : b < 256) (hc : c < 256) (hd : d < 256) (hp : p < 65536) :
    ∃ v, tell_End.f (k + 5) (16777216 * (a : Int) + 65536 * b + 256 * c + d) (p : Int) = some v ∧ towroperef34_End.f (k + 5) (16777216 * (a : Int) + 65536 * b + 256 * c + d) (p : Int) = some v := by
  have hl := txtA_le a b c d ha hb hc hd
  have hD : (D p).length ≤ 5 := dec_len 5 p (by omega) (by omega)
  have hdot : (⟨#[46]⟩ : ByteArray) = B [46] := rfl
  have hs1 : (B (txtA a b c d)).size + 1 ≤ 9223372036854775807 := by rw [B_size]; omega
  have hs2 : (B (txtA a b c d) ++ B [46]).size + (B (D p)).size ≤ 9223372036854775807 := by rw [B_app, B_size, B_size, List.length_append, List.length_cons, List.length_nil]; omega
  refine ⟨(B (txtA a b c d) ++ B [46]) ++ B (D p), ?_, ?_⟩
  · unfold tell_End.f
    rw [text_f k a b c d ha hb hc hd, Option.bind_some, if_pos hs1, w64 (by omega) (by omega), num_g p (by omega), Option.bind_some, hdot, if_pos hs2]
  · unfold towroperef34_End.f towroperef34_end.f
    rw [reftext_g (k + 5) a b c d ha hb hc hd, Option.bind_some, if_pos hs1, w64 (by omega) (by omega), number_f _ _ (by omega) (by omega), Option.bind_some, itoa_D, hdot, if_pos hs2, Option.bind_some]
theorem tell_live (k : Nat) : towropelaw34_live.f k = some true := by
  have n1 : tell_num.f 1 = some ⟨#[49]⟩ := by rw [show (1 : Int) = ((1 : Nat) : Int) from rfl, num_g 1 (by omega), D1 1 (by omega)]; rfl
  have n0 : tell_num.f 0 = some ⟨#[48]⟩ := by rw [show (0 : Int) = ((0 : Nat) : Int) from rfl, num_g 0 (by omega), D1 0 (by omega)]; rfl
  have n5 : tell_num.f 5 = some ⟨#[53]⟩ := by rw [show (5 : Int) = ((5 : Nat) : Int) from rfl, num_g 5 (by omega), D1 5 (by omega)]; rfl
  have n3 : tell_num.f 3 = some ⟨#[51]⟩ := by rw [show (3 : Int) = ((3 : Nat) : Int) from rfl, num_g 3 (by omega), D1 3 (by omega)]; rfl
  have e3 : ((([1, 2, 3] : List Int)).length : Int) = 3 := rfl
  have w1 : tell_words.f [⟨#[104, 111, 115, 116]⟩, ⟨#[49]⟩, ⟨#[99, 116, 120]⟩, ⟨#[48]⟩, ⟨#[116, 105, 99, 107, 101, 116]⟩, ⟨#[53]⟩] = some ⟨#[104, 111, 115, 116, 32, 49, 32, 99, 116, 120, 32, 48, 32, 116, 105, 99, 107, 101, 116, 32, 53]⟩ := by decide +kernel
  have w2 : tell_words.f [⟨#[104, 111, 115, 116, 32, 49, 32, 99, 116, 120, 32, 48, 32, 116, 105, 99, 107, 101, 116, 32, 53]⟩, ⟨#[100, 105, 100]⟩, ⟨#[51]⟩, ⟨#[98, 121, 116, 101, 115]⟩, ⟨#[51]⟩] = some ⟨#[104, 111, 115, 116, 32, 49, 32, 99, 116, 120, 32, 48, 32, 116, 105, 99, 107, 101, 116, 32, 53, 32, 100, 105, 100, 32, 51, 32, 98, 121, 116, 101, 115, 32, 51]⟩ := by decide +kernel
  unfold towropelaw34_live.f tell_Mark.f
  rw [if_neg (by decide), n1, Option.bind_some, n0, Option.bind_some, n5, Option.bind_some, w1, Option.bind_some, if_neg (by decide), if_pos rfl, n3, Option.bind_some, e3, n3, Option.bind_some, w2, Option.bind_some, Option.bind_some]
  decide +kernel
theorem TellNames : TellNamesSt := by
  intro s f x p hs hf hx hp
  have f0 : 0 ≤ f ∧ f ≤ 255 := by simpa [Lit.wf, IntKind.min, IntKind.max, IntKind.signed, IntKind.bits] using hf
  have x0 : 0 ≤ x ∧ x ≤ 4294967295 := by simpa [Lit.wf, IntKind.min, IntKind.max, IntKind.signed, IntKind.bits] using hx
  have p0 : 0 ≤ p ∧ p ≤ 65535 := by simpa [Lit.wf, IntKind.min, IntKind.max, IntKind.signed, IntKind.bits] using hp
  obtain ⟨f, rfl⟩ : ∃ n : Nat, f = n := ⟨f.toNat, by omega⟩
  obtain ⟨p, rfl⟩ : ∃ n : Nat, p = n := ⟨p.toNat, by omega⟩
  obtain ⟨x, rfl⟩ : ∃ n : Nat, x = n := ⟨x.toNat, by omega⟩
  obtain ⟨a, b, c, d, ha, hb, hc, hd, he⟩ := quads x (by omega)
  obtain ⟨v, hv1, hv2⟩ := end_eq 7 a b c d p ha hb hc hd (by omega)
  rw [← he] at hv1 hv2
  obtain ⟨e1, o1⟩ := state_eq s
  obtain ⟨e2, o2⟩ := flags_all ⟨f, by omega⟩
  obtain ⟨sv, hsv⟩ := Option.isSome_iff_exists.1 o1
  obtain ⟨fv, hfv⟩ := Option.isSome_iff_exists.1 o2
  rw [hsv] at e1
  rw [hfv] at e2
  refine ⟨12, ?_⟩
  unfold towropelaw34_TellNames.f
  rw [hsv, Option.bind_some, ← e1, Option.bind_some, if_pos rfl]
  rw [show tell_Flags.f 12 (f : Int) = some fv from hfv, Option.bind_some, show towroperef34_Flags.f 12 (f : Int) = some fv from e2.symm, Option.bind_some, if_pos rfl, show (12 : Nat) = 7 + 5 from rfl, hv1, Option.bind_some, hv2, Option.bind_some, if_pos rfl, tell_live, Option.bind_some]
end Go.Proofs.YtcebnaknodghcaaDoor.Pure
