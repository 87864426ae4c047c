/- For all numbers: those within half the way round stand in the order in which they come behind the first one. No conditions. -/
import Derived.Test.YtcnodelfblpdiaaPSeqHalvesx1
import Derived.Test.YtcnodelfblpdiaaAr
namespace Go.Proofs.Ytcnodelfblpdiaa.Pure
set_option linter.unusedVariables false
set_option linter.unusedSimpArgs false
open Go.RowKit Go.Proofs.Ytcnodelfblpdiaa.PSeqHalves Go.Proofs.YtcnodelfblpdiaaW.PrintWords Go.Proofs.YtcnodelfblpdiaaW.PrintLast Go.Proofs.YtcnodelfblpdiaaW.PrintMore Go.Proofs.Ytcnodelfblpdiaa.Ar

theorem SeqHalves : towropelaw03_SeqHalves.Pure := by
  intro a x y ha hx hy
  obtain ⟨a0, a1⟩ := bounds_u32 ha
  obtain ⟨x0, x1⟩ := bounds_u32 hx
  obtain ⟨y0, y1⟩ := bounds_u32 hy
  have live : towropelaw03_live.f = some true := by decide +kernel
  have ep : Int.tmod (wrap64 x) 2147483648 = x % 2147483648 := by rw [w64 (by omega) (by omega), tm _ _ x0]
  have eq : Int.tmod (wrap64 y) 2147483648 = y % 2147483648 := by rw [w64 (by omega) (by omega), tm _ _ y0]
  have p0 : 0 ≤ x % 2147483648 := by omega
  have p1 : x % 2147483648 < 2147483648 := by omega
  have q0 : 0 ≤ y % 2147483648 := by omega
  have q1 : y % 2147483648 < 2147483648 := by omega
  unfold towropelaw03_SeqHalves.f seq_Add.f seq_Less.f seq_In.f seq_Max.f seq_Less.f seq_Diff.f
  rw [ep, eq, live]
  generalize x % 2147483648 = p at *
  generalize y % 2147483648 = q at *
  have eb : (a + p % 4294967296) % 4294967296 = (a + p) % 4294967296 := by omega
  have ec : (a + q % 4294967296) % 4294967296 = (a + q) % 4294967296 := by omega
  rw [eb, ec]
  obtain ⟨b, hb⟩ : ∃ b, b = (a + p) % 4294967296 := ⟨_, rfl⟩
  obtain ⟨c, hc⟩ : ∃ c, c = (a + q) % 4294967296 := ⟨_, rfl⟩
  rw [← hb, ← hc]
  have ew : wrap64 (p + 1) = p + 1 := w64 (by omega) (by omega)
  have l1 : (wrap64 (wrap32 ((b - c) % 4294967296)) < 0) ↔ p < q := by unfold wrap64 wrap32; omega
  have l2 : (b - a) % 4294967296 = p := by omega
  have l3 : ¬ wrap64 (wrap32 ((b - a) % 4294967296)) < 0 := by unfold wrap64 wrap32; omega
  have i1 : IntKind.u64.wrap (p + 1) = p + 1 := by rw [u64w]; omega
  have i2 : IntKind.u64.wrap p = p := by rw [u64w]; omega
  simp only [Option.bind_some]
  rw [if_pos (beqd l1), ew, if_pos (by omega), l2, i1]
  simp only [Option.bind_some]
  rw [if_pos (decide_eq_true (by omega))]
  have e2 : (if p > 0 then some (decide (p < IntKind.u64.wrap p)) else some false) = some false := by
    rw [i2]; split <;> simp
  rw [e2]
  simp only [Option.bind_some]
  rw [if_neg (by simp), ← l2, if_neg (by simpa using l3), l2]
  by_cases h : p < q
  · have hne : c ≠ b := by omega
    rw [if_pos (by simpa using l1.2 h)]
    simp only [Option.bind_some]
    rw [if_pos (by rw [beq_eq_false_iff_ne.2 hne, decide_eq_false (by omega)]; rfl)]
  · rw [if_neg (by simpa using fun hh => h (l1.1 hh))]
    simp only [Option.bind_some]
    rw [if_pos (by rw [beq_self_eq_true, decide_eq_true (by omega)]; rfl)]
end Go.Proofs.Ytcnodelfblpdiaa.Pure
