/- cq: a list of users as an argument. Conditions: each theorem's own. -/
import Derived.Test.YtimgfdkndlbfbaaHCqA
namespace Go.Proofs.Ytimgfdkndlbfbaa.HCqA
open Go.RowKit Go.Deep Go.ChangeShapes Go.WideShapes Go.ChangeAt Go.Proofs.YtimgfdkndlbfbaaW.PrintWords Go.Proofs.YtimgfdkndlbfbaaW.PrintLast Go.Proofs.YtimgfdkndlbfbaaW.PrintMore Go.Proofs.Ytimgfdkndlbfbaa.PCq
set_option linter.unusedVariables false
set_option maxRecDepth 100000
section
variable {H : Type} {enc : TypeId × Value → H} {w : World} {base : Nat} {held : Bool}
theorem rd32 : Rd enc w base held 32 (Kd.int .u64) := Rd.int (k := .u64) (by kernel_rfl)
theorem rd22 : Rd enc w base held 22 (Kd.slice 32 (Kd.int .u64)) := Rd.slice 0 (by kernel_rfl) (by kernel_rfl) rd32
theorem open_u64s {r : Reach} {b0 : Nat} {v : Value} {d : DataW H} {p : List MemPlace} (hv : Value.okWide Try.prog w r b0 22 v) (h : DataW.Trod enc Try.prog w base (fun _ => true) held 22 v d p) : ∃ (A : Option Addr) (c : Nat) (l : List Int), v = .slice A l.length c ∧ Kd.C (Kd.int .u64) w A l.length l := by
  obtain ⟨a0, len, cap, rfl⟩ := okWide_slice (show Try.prog.underlying 22 = some (.slice 32) by kernel_rfl) hv
  obtain ⟨n, hn⟩ := h
  obtain ⟨l, A, c, e, hc, hC⟩ := rd22 _ n _ hn
  replace e : [Value.slice a0 len cap] = [.slice A l.length c] := e
  injection e with e _
  exact ⟨A, c, l, e, hC⟩
end
end Go.Proofs.Ytimgfdkndlbfbaa.HCqA
