/- pool: a pool's block, its sixteen groups (a map, a slice of numbers each). Conditions: each theorem's own. -/
import Derived.Test.YtfmfpofbefgbgaaHSl
import Derived.Test.YtfmfpofbefgbgaaHMap
namespace Go.Proofs.Ytfmfpofbefgbgaa.HPool
open Go.RowKit Go.Proofs.YtfmfpofbefgbgaaW.PrintWords Go.Proofs.YtfmfpofbefgbgaaW.PrintLast Go.Proofs.YtfmfpofbefgbgaaW.PrintMore Go.Proofs.Ytfmfpofbefgbgaa.HMap Go.Proofs.Ytfmfpofbefgbgaa.HSl Go.Maps Go.ChangeMaps Go.MapKept
set_option linter.unusedVariables false
set_option linter.unusedSimpArgs false
set_option linter.unusedSectionVars false
theorem laidOut : laidOutB Try.prog = true := by kernel_rfl
/-- A buffer: its size, whether it is out. -/
abbrev Bf := Int × Bool
def vB (b : Bf) : Value := .agg #[.int .i64 b.1, .bool b.2]
def kI : Ky Try.prog 3 Int where
  enc := Value.int .i64
  ok := fun p => (Lit.int .i64 p).wf = true
  law := int_keyed Try.underlying3
  key := fun a h => ⟨_, keyOf_int_mk Try.underlying3 h⟩
  inj := fun a b h => by injection h
theorem zero126 (w : World) : (zeroValue 126).run Try.prog w = .ok (.agg #[.int .i64 0, .bool false]) w := by kernel_rfl
/-- What a group holds: its buffers, how many, those that are free. -/
structure Gp where
  m : Int → Option Bf
  n : Nat
  fr : List Int
/-- A pool at block pb: its maps at mp i, its rows fv i. -/
structure Pb (b0 : Nat) (w : World) (pb : Nat) (mp : Nat → Nat) (fv : Nat → Value) (s : Nat → Gp) : Prop where
  blk : ∃ cells : Array Value, w.heap[pb]? = some (.cells cells 121 (0, 0)) ∧ cells.size = 32 ∧ ∀ i, i < 16 → cells[2 * i]? = some (.map (some (mp i))) ∧ cells[2 * i + 1]? = some (fv i)
  lo : b0 ≤ pb ∧ ∀ i, i < 16 → b0 ≤ mp i
  M : ∀ i, i < 16 → Mf kI vB w (mp i) (s i).m (s i).n
  F : ∀ i, i < 16 → Sl b0 w (fv i) (s i).fr
  apM : ∀ i j, i < 16 → j < 16 → i ≠ j → mp i ≠ mp j
  apF : ∀ i j, i < 16 → j < 16 → i ≠ j → ∀ k, (fv i).ownBlock = some k → (fv j).ownBlock ≠ some k
section
variable {b0 pb : Nat} {w w' : World} {mp : Nat → Nat} {fv : Nat → Value} {s : Nat → Gp}
theorem Pb.below (h : Pb b0 w pb mp fv s) (hb : Below w.heap.size w w') : Pb b0 w' pb mp fv s := by
  obtain ⟨cells, h1, h2, h3⟩ := h.blk
  exact ⟨⟨cells, blk_below h1 hb, h2, h3⟩, h.lo, fun i hi => (h.M i hi).below hb, fun i hi => (h.F i hi).below hb, h.apM, h.apF⟩
/-- The cells of a group. -/
theorem Pb.cell (h : Pb b0 w pb mp fv s) {i : Nat} (hi : i < 16) : w.cell? ⟨pb, 2 * i, none⟩ = some (.map (some (mp i))) ∧ w.cell? ⟨pb, 2 * i + 1, none⟩ = some (fv i) ∧ w.frozen? ⟨pb, 2 * i + 1, none⟩ = false := by
  obtain ⟨cells, h1, h2, h3⟩ := h.blk
  exact ⟨(blk_cell h1 (2 * i)).trans (h3 i hi).1, (blk_cell h1 (2 * i + 1)).trans (h3 i hi).2, blk_frozen h1 _⟩
end
/-- of: at nil. -/
theorem of_nil (n : Int) (w : World) : Calls Try.prog 65 #[.pointer none, .int .i64 n] w fun e w' => e = .returned (.tuple #[.pointer none, .int .i64 7]) ∧ w = w' := by
  go_enter Try.func65, Try.ntmps65
  go_wp2
  go_ret2
  exact ⟨rfl, rfl⟩
/-- of: no such group. -/
theorem of_out (pb : Nat) (n : Int) (w : World) (h : n < 0 ∨ 16 ≤ n) : Calls Try.prog 65 #[.pointer (some ⟨pb, 0, none⟩), .int .i64 n] w fun e w' => e = .returned (.tuple #[.pointer none, .int .i64 1]) ∧ w = w' := by
  by_cases hc : n < 0
  · have d0 : decide (n < 0) = true := decide_eq_true hc
    clear hc h
    go_enter Try.func65, Try.ntmps65
    go_wp2
    go_ret2
    exact ⟨rfl, rfl⟩
  · have d0 : decide (n < 0) = false := decide_eq_false hc
    have d1 : decide (16 ≤ n) = true := decide_eq_true (by omega)
    clear hc h
    go_enter Try.func65, Try.ntmps65
    go_wp2
    go_ret2
    exact ⟨rfl, rfl⟩
/-- of: a group. -/
theorem of_in {b0 pb : Nat} {w : World} {mp : Nat → Nat} {fv : Nat → Value} {s : Nat → Gp} (h : Pb b0 w pb mp fv s) (i : Nat) (hi : i < 16) : Calls Try.prog 65 #[.pointer (some ⟨pb, 0, none⟩), .int .i64 i] w fun e w' => e = .returned (.tuple #[.pointer (some ⟨pb, 2 * i, none⟩), .int .i64 0]) ∧ w = w' := by
  have d0 : decide ((i : Int) < 0) = false := decide_eq_false (by omega)
  have d1 : decide (16 ≤ (i : Int)) = false := decide_eq_false (by omega)
  have d2 : decide (16 ≤ i) = false := decide_eq_false (by omega)
  have d3 : decide ((i : Int) < 16) = true := decide_eq_true (by omega)
  have d4 : decide (i < 16) = true := decide_eq_true hi
  have d5 : (i < 16) = True := eq_true hi
  have d6 : i * 2 = 2 * i := Nat.mul_comm _ _
  have d7 : ((i : Int) < 16) = True := eq_true (by omega)
  have d8 : (0 ≤ (i : Int)) = True := eq_true (by omega)
  obtain ⟨cells, h1, h2, h3⟩ := h.blk
  have hlt := blk_lt h1
  clear h hi h1 h2 h3
  go_enter Try.func65, Try.ntmps65
  go_wp2
  go_ret2
  exact ⟨rfl, rfl⟩
end Go.Proofs.Ytfmfpofbefgbgaa.HPool
