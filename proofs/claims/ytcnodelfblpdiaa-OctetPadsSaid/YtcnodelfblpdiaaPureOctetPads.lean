/- For all bytes and numbers: bytes are filled up, and zeros told, as by definition. No conditions. -/
import Derived.Test.YtcnodelfblpdiaaPOctx3
import Derived.Test.YtcnodelfblpdiaaPOctx7
import Derived.Test.YtcnodelfblpdiaaPOctx8
import Derived.Test.YtcnodelfblpdiaaPOctx9
import Derived.Test.YtcnodelfblpdiaaOctLPad
namespace Go.Proofs.Ytcnodelfblpdiaa.Pure
set_option linter.unusedVariables false
set_option linter.unusedSimpArgs false
open Go.RowKit Go.Proofs.Ytcnodelfblpdiaa.POct Go.Proofs.YtcnodelfblpdiaaW.PrintWords Go.Proofs.YtcnodelfblpdiaaW.PrintLast Go.Proofs.YtcnodelfblpdiaaW.PrintMore Go.Proofs.Ytcnodelfblpdiaa.Ar

theorem pads_seven (k : Nat) (h : 66 ≤ k) : octet_Pad.f k [7] 2 = some ([7, 0], 0) := by
  obtain ⟨k, rfl⟩ : ∃ m, k = m + 66 := ⟨k - 66, by omega⟩
  rw [pad_f k [7] 2 (by simp)]
  decide +kernel
theorem rd_rep (m : Nat) (i : Int) : rd (List.replicate m 0) i = 0 := by
  unfold rd
  rw [List.getD_eq_getElem?_getD]
  rcases Nat.lt_or_ge i.toNat m with h | h
  · rw [List.getElem?_eq_getElem (by simpa using h)]; simp
  · rw [List.getElem?_eq_none (by simpa using h)]; rfl

theorem pads_loop (n : Int) (m : Nat) (hn : (m : Int) = n) (hm : m ≤ 65535) : ∀ (d i k : Nat), i + d = m → d + 66 < k → towropelaw01_OctetPads.l0 k n (List.replicate m 0) 0 i = some true := by
  intro d
  induction d with
  | zero =>
    intro i k hi hk
    obtain ⟨k, rfl⟩ : ∃ m, k = m + 66 + 1 := ⟨k - 67, by omega⟩
    obtain rfl : i = m := by omega
    simp only [towropelaw01_OctetPads.l0]
    rw [if_neg (by simp), pads_seven (k + 66) (by omega)]
    simp only [Option.bind_some, List.length_replicate]
    rw [if_pos hn]
    unfold towropelaw01_code.f
    decide +kernel
  | succ d ih =>
    intro i k hi hk
    obtain ⟨k, rfl⟩ : ∃ m, k = m + 1 := ⟨k - 1, by omega⟩
    simp only [towropelaw01_OctetPads.l0]
    rw [if_pos (by simp; omega), if_pos (by omega), if_pos (rd_rep m i), w64 (by omega) (by omega)]
    exact ih (i + 1) k (by omega) (by omega)

theorem OctetPads : towropelaw01_OctetPads.Pure := by
  intro l u n _ hl hw hu hn
  obtain ⟨u0, u1⟩ := bounds_i64 hu
  obtain ⟨n0, n1⟩ := bounds_i64 hn
  rw [Nat.mul_one] at hl
  refine ⟨65535 + 69 + 66, ?_⟩
  unfold towropelaw01_OctetPads.f
  rw [pad_f _ l u hl, refpad_f _ l u hl]
  simp only [Option.bind_some]
  unfold octet_Zeros.f
  have hpos : (strOfNums (padS l u).1).toList = (strOfNums (padS l u).1).toList := rfl
  by_cases h1 : n < 0
  · rw [if_pos h1]
    simp only [Option.bind_some]
    rw [if_pos trivial]
    unfold towropelaw01_code.f
    simp only [Option.bind_some]
    rw [bne_self_eq_false]
    simp only [towropelaw01_OctetPads.j0]
    rw [if_neg (by simp), if_pos h1]
    simp only [towropelaw01_OctetPads.j1]
    rw [if_pos trivial, pads_seven _ (by omega)]
    unfold towropelaw01_code.f
    simp only [Option.bind_some]
    rw [decide_eq_true h1, decide_eq_false (by omega)]
    decide +kernel
  · rw [if_neg h1]
    by_cases h2 : n > 65535
    · rw [if_pos h2]
      simp only [Option.bind_some]
      rw [if_pos trivial]
      unfold towropelaw01_code.f
      simp only [Option.bind_some]
      rw [bne_self_eq_false]
      simp only [towropelaw01_OctetPads.j0]
      rw [if_neg (by simp), if_neg h1, decide_eq_true h2]
      simp only [towropelaw01_OctetPads.j1]
      rw [if_pos trivial, pads_seven _ (by omega)]
      unfold towropelaw01_code.f
      simp only [Option.bind_some]
      rw [decide_eq_false h1, decide_eq_true (by omega)]
      decide +kernel
    · rw [if_neg h2, if_pos (by omega), if_pos (by omega)]
      simp only [Option.bind_some]
      rw [if_pos trivial]
      unfold towropelaw01_code.f
      simp only [Option.bind_some]
      rw [bne_self_eq_false]
      simp only [towropelaw01_OctetPads.j0]
      rw [if_neg (by simp), if_neg h1, decide_eq_false h2]
      simp only [towropelaw01_OctetPads.j1]
      rw [if_neg (by simp)]
      exact pads_loop n n.toNat (by omega) (by omega) n.toNat 0 _ (by omega) (by omega)
end Go.Proofs.Ytcnodelfblpdiaa.Pure
