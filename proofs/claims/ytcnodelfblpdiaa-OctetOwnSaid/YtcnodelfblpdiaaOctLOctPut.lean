/- Plain law of layer 1: numbers as bytes, by the program and the reference. Conditions: each lemma's own. -/
import Derived.Test.YtcnodelfblpdiaaPOctx1
import Derived.Test.YtcnodelfblpdiaaAr
namespace Go.Proofs.Ytcnodelfblpdiaa.POct
set_option linter.unusedVariables false
set_option linter.unusedSimpArgs false
open Go.RowKit Go.Proofs.YtcnodelfblpdiaaW.PrintWords Go.Proofs.YtcnodelfblpdiaaW.PrintLast Go.Proofs.YtcnodelfblpdiaaW.PrintMore Go.Proofs.Ytcnodelfblpdiaa.Ar
def twoS (n : Int) : List Int := [n % 65536 / 256, n % 256]

theorem put_step (k : Nat) (x m n i sh i1 : Int) (l : List Int) (hi : i < n) (hsh : wrap64 (8 * wrap64 (wrap64 (m - 1) - i)) = sh) (hs : 0 ≤ sh) (hl : l.length < 140737488355328) (h1 : wrap64 (i + 1) = i1) :
    octet_put.l0 (k + 1) x m l n i = octet_put.l0 k x m (l ++ [(shr .u64 x sh) % 256]) n i1 := by
  simp only [octet_put.l0]
  rw [if_pos hi, hsh, if_pos hs, if_pos hl, h1]
theorem put_end (k : Nat) (x m n i : Int) (l : List Int) (hi : ¬ i < n) : octet_put.l0 (k + 1) x m l n i = some l := by
  simp only [octet_put.l0]
  rw [if_neg hi]
theorem shr0 (x : Int) : shr .u64 x 0 = x := by
  unfold shr
  rw [show (2 : Int) ^ min (Int.toNat 0) IntKind.u64.bits = 1 by decide +kernel]
  omega
theorem shr8 (x : Int) : shr .u64 x 8 = x / 256 := by
  unfold shr
  rw [show (2 : Int) ^ min (Int.toNat 8) IntKind.u64.bits = 256 by decide +kernel]
theorem shr16 (x : Int) : shr .u64 x 16 = x / 65536 := by
  unfold shr
  rw [show (2 : Int) ^ min (Int.toNat 16) IntKind.u64.bits = 65536 by decide +kernel]
theorem shr24 (x : Int) : shr .u64 x 24 = x / 16777216 := by
  unfold shr
  rw [show (2 : Int) ^ min (Int.toNat 24) IntKind.u64.bits = 16777216 by decide +kernel]

def fourS (n : Int) : List Int := [n / 16777216 % 256, n / 65536 % 256, n / 256 % 256, n % 256]
theorem clone_g (l : List Int) (hl : l.length < 140737488355328) : slices_Clone_byte_byte.f l = some l := by
  unfold slices_Clone_byte_byte.f
  rw [if_pos hl]

theorem put2_f (k : Nat) (l : List Int) (x : Int) (hl : l.length + 2 ≤ 140737488355328) : octet_put.f (k + 3) l x 2 = some (l ++ [x / 256 % 256, x % 256]) := by
  unfold octet_put.f
  rw [clone_g l (by omega)]
  simp only [Option.bind_some]
  rw [put_step (k + 2) x 2 2 0 8 1 l (by decide) (by decide +kernel) (by decide) (by omega) (by decide +kernel),
    put_step (k + 1) x 2 2 1 0 2 _ (by decide) (by decide +kernel) (by decide) (by simp; omega) (by decide +kernel), put_end k x 2 2 2 _ (by decide), shr8, shr0]
  simp
theorem put4_f (k : Nat) (l : List Int) (x : Int) (hl : l.length + 4 ≤ 140737488355328) : octet_put.f (k + 5) l x 4 = some (l ++ fourS x) := by
  unfold octet_put.f fourS
  rw [clone_g l (by omega)]
  simp only [Option.bind_some]
  rw [put_step (k + 4) x 4 4 0 24 1 l (by decide) (by decide +kernel) (by decide) (by omega) (by decide +kernel),
    put_step (k + 3) x 4 4 1 16 2 _ (by decide) (by decide +kernel) (by decide) (by simp; omega) (by decide +kernel),
    put_step (k + 2) x 4 4 2 8 3 _ (by decide) (by decide +kernel) (by decide) (by simp; omega) (by decide +kernel),
    put_step (k + 1) x 4 4 3 0 4 _ (by decide) (by decide +kernel) (by decide) (by simp; omega) (by decide +kernel), put_end k x 4 4 4 _ (by decide), shr24, shr16, shr8, shr0]
  simp

theorem put16_f (k : Nat) (l : List Int) (n : Int) (hl : l.length + 2 ≤ 140737488355328) : octet_Put16.f (k + 3) l n = some (l ++ twoS n) := by
  unfold octet_Put16.f
  rw [u16w, u64w, show n % 65536 % 18446744073709551616 = n % 65536 by omega, put2_f k l _ hl]
  simp only [Option.bind_some]
  unfold twoS
  rw [show n % 65536 / 256 % 256 = n % 65536 / 256 by omega, show n % 65536 % 256 = n % 256 by omega]
theorem put32_f (k : Nat) (l : List Int) (n : Int) (n0 : 0 ≤ n) (n1 : n ≤ 4294967295) (hl : l.length + 4 ≤ 140737488355328) : octet_Put32.f (k + 5) l n = some (l ++ fourS n) := by
  unfold octet_Put32.f
  rw [u64w, show n % 18446744073709551616 = n by omega, put4_f k l n hl]
  rfl

theorem two_f (n : Int) : towroperef01_Two.f n = some (twoS n) := by
  unfold towroperef01_Two.f twoS
  rw [u64w, tm _ _ (by omega)]
  have e : n % 18446744073709551616 % 65536 = n % 65536 := by omega
  rw [e, w64 (n := n % 65536) (by omega) (by omega), tm _ _ (by omega), td _ _ (by omega), w64 (by omega) (by omega), show n % 65536 / 256 % 256 = n % 65536 / 256 by omega, show n % 65536 % 256 % 256 = n % 256 by omega]

theorem four_f (n : Int) (n0 : 0 ≤ n) (n1 : n ≤ 4294967295) : towroperef01_Four.f n = some (fourS n) := by
  unfold towroperef01_Four.f
  rw [td _ _ n0, tm _ _ n0, two_f, two_f, w64 (n := n % 65536) (by omega) (by omega)]
  simp only [Option.bind_some]
  unfold twoS fourS
  simp only [List.length_cons, List.length_nil]
  rw [if_pos (by omega)]
  simp only [List.cons_append, List.nil_append]
  rw [show n / 65536 % 4294967296 % 65536 / 256 = n / 16777216 % 256 by omega, show n / 65536 % 4294967296 % 256 = n / 65536 % 256 by omega, show n % 65536 % 65536 / 256 = n / 256 % 256 by omega, show n % 65536 % 256 = n % 256 by omega]
end Go.Proofs.Ytcnodelfblpdiaa.POct
