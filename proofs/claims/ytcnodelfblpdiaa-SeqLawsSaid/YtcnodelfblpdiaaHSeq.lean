/- seq.Accept: for all numbers of their kinds the call answers by one Lean function; nothing that was there changes. -/
import Derived.Test.YtcnodelfblpdiaaProg
import Derived.WalkSpells
import Derived.Below
import Derived.Deep.Draws
import Derived.Deep.AppendLies
import Derived.Maps.AppendAt
import Derived.OwnWalk
import Derived.Laws.BytesArg
import Derived.Laws.MakeOwn
import Derived.Laws.OwnMore
import Derived.Deep.OwnRows
import Derived.Tactics
import Derived.Lib.ConvBytes
import Derived.Laws.Slices
import Derived.WalkKit
import Derived.KernelRfl
import Derived.RowKit3
import Derived.Deep.LoopGhost
import Derived.Deep.QuietTactic
import Derived.BigQuiet
import Derived.WideLaws
import Derived.Deep.DeepCutAuto
import Derived.Deep.CutBlock
import Derived.Deep.RegionHeld3
import Derived.Laws.Rows
import Derived.Lib.AppendStr
import Derived.ArgAppend
import Derived.Laws.IdiomCopy
import Derived.OrdersHeld
import Derived.Laws.BitsLemmas
import Derived.RowKit
import Derived.Test.YtcnodelfblpdiaaWWords
import Derived.Test.YtcnodelfblpdiaaWLast
import Derived.Test.YtcnodelfblpdiaaWTab
import Derived.Test.YtcnodelfblpdiaaWFour
import Derived.Test.YtcnodelfblpdiaaWQPut
import Derived.Test.YtcnodelfblpdiaaWApart
import Derived.Test.YtcnodelfblpdiaaWArr
import Derived.Test.YtcnodelfblpdiaaWZeros
import Derived.Test.YtcnodelfblpdiaaWFoot
import Derived.Test.YtcnodelfblpdiaaWKept
import Derived.Test.YtcnodelfblpdiaaWShare
import Derived.Test.YtcnodelfblpdiaaWN
import Derived.Test.YtcnodelfblpdiaaWFootNe
import Derived.Test.YtcnodelfblpdiaaWAt
import Derived.Test.YtcnodelfblpdiaaWEqStruct
import Derived.Test.YtcnodelfblpdiaaWRepsOne
import Derived.Test.YtcnodelfblpdiaaWInv
import Derived.Test.YtcnodelfblpdiaaWInvWords
import Derived.Test.YtcnodelfblpdiaaWGuard
import Derived.Test.YtcnodelfblpdiaaWNEv
import Derived.Test.YtcnodelfblpdiaaWMore
namespace Go.Proofs.Ytcnodelfblpdiaa.HSeq
open Go.RowKit Go.Proofs.YtcnodelfblpdiaaW.PrintWords Go.Proofs.YtcnodelfblpdiaaW.PrintLast Go.Proofs.YtcnodelfblpdiaaW.PrintMore
set_option linter.unusedVariables false
set_option linter.unusedSimpArgs false

def inF (s fr n : Int) : Bool := decide (0 < n) && decide ((s - fr) % 4294967296 < n)
def accF (s length next window : Int) : Bool :=
  if length ≤ 0 then (if window ≤ 0 then s == next else inF s next window) else (inF s next window || inF ((s + (length - 1)) % 4294967296) next window)

set_option maxHeartbeats 800000 in
theorem in_calls (x fr n : Int) (n0 : -9223372036854775808 ≤ n) (n1 : n ≤ 9223372036854775807) (p6 p7 : Addr) (w : World) (h6 : w.cell? p6 = some (.int .u32 fr)) (h7 : w.cell? p7 = some (.int .i64 n)) :
    Calls Try.prog 64 #[.int .u32 x, .pointer (some p6), .pointer (some p7)] w fun e w' => e = .returned (.bool (inF x fr n)) ∧ w = w' := by
  by_cases hn : 0 < n
  · go_enter Try.func64, Try.ntmps64
    go_wp2
    go_ret
    exact ⟨by simp [inF, hn], rfl⟩
  · go_enter Try.func64, Try.ntmps64
    go_wp2
    go_ret
    exact ⟨by have e : inF x fr n = false := by { simp [inF]; omega }
              rw [e]; rfl, rfl⟩

theorem add_calls (s n : Int) (w : World) : Calls Try.prog 31 #[.int .u32 s, .int .i64 n] w fun e w' => e = .returned (.int .u32 ((s + n % 4294967296) % 4294967296)) ∧ w = w' := by
  go_enter Try.func31, Try.ntmps31
  go_wp2
  go_ret
  exact ⟨rfl, rfl⟩

theorem box2 (w : World) (a b : Value) (ta tb : TypeId) (h : a.oneCell' = true) (k : b.oneCell' = true) :
    ((w.alloc (.cells #[a] ta)).alloc (.cells #[b] tb)).cell? ⟨w.heap.size, 0, none⟩ = some a ∧ ((w.alloc (.cells #[a] ta)).alloc (.cells #[b] tb)).cell? ⟨w.heap.size + 1, 0, none⟩ = some b := by
  constructor
  · go_simp
  · go_simp

set_option maxHeartbeats 8000000 in
set_option maxRecDepth 100000 in
theorem calls (s length next window : Int) (l0 : -9223372036854775808 ≤ length) (l1 : length ≤ 9223372036854775807) (n0 : -9223372036854775808 ≤ window) (n1 : window ≤ 9223372036854775807) (w : World) :
    Calls Try.prog 38 #[.int .u32 s, .int .i64 length, .int .u32 next, .int .i64 window] w fun e w' => e = .returned (.bool (accF s length next window)) ∧ Below w.heap.size w w' := by
  have hb : Below w.heap.size w ((w.alloc (.cells #[.int .u32 next] 22)).alloc (.cells #[.int .i64 window] 3)) := ((Below.refl _ _).alloc (Nat.le_refl _) _).alloc (by simp) _
  have HB := Aside0.mk hb
  clear hb
  by_cases hl : length ≤ 0
  · by_cases hw : window ≤ 0
    · have e : accF s length next window = (s == next) := by simp [accF, hl, hw]
      rw [e]
      go_enter Try.func38, Try.ntmps38
      go_wp2
      go_ret
      exact ⟨rfl, HB.out⟩
    · have e : accF s length next window = inF s next window := by simp [accF, hl, hw]
      rw [e]
      have d1 : decide (window ≤ 0) = false := decide_eq_false hw
      go_enter Try.func38, Try.ntmps38
      go_wp2_with (go_at_call 64; (with_reducible refine (in_calls s next window n0 n1 _ _ _ ?h6 ?h7).mono ?_); (case h6 => exact (box2 _ _ _ _ _ rfl rfl).1); (case h7 => exact (box2 _ _ _ _ _ rfl rfl).2); rintro e w' ⟨rfl, rfl⟩)
      go_ret
      exact ⟨rfl, HB.out⟩
  · have d0 : decide (length ≤ 0) = false := decide_eq_false hl
    by_cases hin : inF s next window = true
    · have e : accF s length next window = true := by simp [accF, hl, hin]
      rw [e]
      have hin' := Aside0.mk hin
      clear hin
      go_enter Try.func38, Try.ntmps38
      go_wp2_with (go_at_call 64; (with_reducible refine (in_calls s next window n0 n1 _ _ _ ?h6 ?h7).mono ?_); (case h6 => exact (box2 _ _ _ _ _ rfl rfl).1); (case h7 => exact (box2 _ _ _ _ _ rfl rfl).2); rintro e w' ⟨rfl, rfl⟩; rw [hin'.out])
      go_ret
      exact ⟨rfl, HB.out⟩
    · have hin2 : inF s next window = false := by simpa using hin
      have e : accF s length next window = inF ((s + (length - 1)) % 4294967296) next window := by simp [accF, hl, hin2]
      rw [e]
      have hin' := Aside0.mk hin2
      clear hin hin2
      go_enter Try.func38, Try.ntmps38
      go_wp2_with (first | (go_at_call 64; (with_reducible refine (in_calls s next window n0 n1 _ _ _ ?h6 ?h7).mono ?_); (case h6 => exact (box2 _ _ _ _ _ rfl rfl).1); (case h7 => exact (box2 _ _ _ _ _ rfl rfl).2); rintro e w' ⟨rfl, rfl⟩; rw [hin'.out]) | (go_at_call 31; (with_reducible refine (add_calls s (length - 1) _).mono ?_); rintro e w' ⟨rfl, rfl⟩) | (go_at_call 64; (with_reducible refine (in_calls ((s + (length - 1)) % 4294967296) next window n0 n1 _ _ _ ?h6 ?h7).mono ?_); (case h6 => exact (box2 _ _ _ _ _ rfl rfl).1); (case h7 => exact (box2 _ _ _ _ _ rfl rfl).2); rintro e w' ⟨rfl, rfl⟩))
      go_ret
      exact ⟨rfl, HB.out⟩
end Go.Proofs.Ytcnodelfblpdiaa.HSeq
