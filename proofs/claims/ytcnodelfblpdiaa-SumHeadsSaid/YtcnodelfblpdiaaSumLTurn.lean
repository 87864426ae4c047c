/- Plain law of layer 2: a check sum turned. Conditions: each lemma's own. -/
import Derived.Test.YtcnodelfblpdiaaPSumx1
import Derived.Test.YtcnodelfblpdiaaPSumx2
import Derived.Test.YtcnodelfblpdiaaSumLSum
namespace Go.Proofs.Ytcnodelfblpdiaa.PSum
set_option linter.unusedVariables false
set_option linter.unusedSimpArgs false
open Go.RowKit Go.Proofs.YtcnodelfblpdiaaW.PrintWords Go.Proofs.YtcnodelfblpdiaaW.PrintLast Go.Proofs.YtcnodelfblpdiaaW.PrintMore Go.Proofs.Ytcnodelfblpdiaa.Ar Go.Proofs.Ytcnodelfblpdiaa.HSum

theorem sumadd_f (a b : Int) : sum_Add.f a b = some (addF a b) := by
  unfold sum_Add.f
  rw [and_low a, and_low b, w64 (n := a % 65536 + b % 65536) (by omega) (by omega), and_low, w64 (by omega) (by omega)]
  congr 1
  unfold addF
  omega
theorem xor_not (a : Int) (a0 : -9223372036854775808 ≤ a) (a1 : a ≤ 9223372036854775807) : Go.bits .xor .i64 (-1) a = -1 - a := by
  show IntKind.i64.wrap (((BitVec.ofInt 64 (-1) ^^^ BitVec.ofInt 64 a).toNat : Nat) : Int) = -1 - a
  have e : BitVec.ofInt 64 (-1) = BitVec.allOnes 64 := by decide
  rw [e, BitVec.allOnes_xor, BitVec.toNat_not, BitVec.toNat_ofInt, IntKind.wrap_i64]
  omega

def turnS (check was now : Int) : Int := 65535 - addF (addF (65535 - check % 65536) (65535 - was % 65536)) now
theorem turn_f (a b c : Int) (a0 : -9223372036854775808 ≤ a) (a1 : a ≤ 9223372036854775807) (b0 : -9223372036854775808 ≤ b) (b1 : b ≤ 9223372036854775807) : sum_Turn.f a b c = some (turnS a b c) := by
  unfold sum_Turn.f
  rw [xor_not a a0 a1, xor_not b b0 b1, sumadd_f]
  simp only [Option.bind_some]
  rw [sumadd_f]
  simp only [Option.bind_some]
  have e : addF (-1 - a) (-1 - b) = addF (65535 - a % 65536) (65535 - b % 65536) := by unfold addF; omega
  have := addF_bd (addF (65535 - a % 65536) (65535 - b % 65536)) c
  rw [e, w64 (by omega) (by omega)]
  rfl
theorem refturn_f (a b c : Int) : towroperef02_Turn.f a b c = some (turnS a b c) := by
  unfold towroperef02_Turn.f towroperef02_Low.f
  rw [u64w, u64w, tm _ _ (by omega), tm _ _ (by omega)]
  simp only [Option.bind_some]
  have ea : a % 18446744073709551616 % 65536 = a % 65536 := by omega
  have eb : b % 18446744073709551616 % 65536 = b % 65536 := by omega
  rw [ea, eb, w64 (n := a % 65536) (by omega) (by omega), w64 (n := b % 65536) (by omega) (by omega), w64 (n := 65535 - a % 65536) (by omega) (by omega), w64 (n := 65535 - b % 65536) (by omega) (by omega), refadd_f]
  simp only [Option.bind_some]
  rw [refadd_f]
  simp only [Option.bind_some]
  have := addF_bd (addF (65535 - a % 65536) (65535 - b % 65536)) c
  rw [w64 (by omega) (by omega)]
  rfl
end Go.Proofs.Ytcnodelfblpdiaa.PSum
