-- Laid by a program of this session (wip/tools/mk.py) over the kit's print: functions, contracts, walks; not written by hand, not trusted: Lean checks it.
import Derived.Test.YtimgfdkndlbfbaaProg
import Derived.Below
import Derived.Deep.Draws
import Derived.Deep.AppendLies
import Derived.Maps.AppendAt
import Derived.OwnWalk
import Derived.Laws.BytesArg
import Derived.Laws.MakeOwn
import Derived.Laws.OwnMore
import Derived.Deep.OwnRows
import Derived.Tactics
import Derived.Lib.ConvBytes
import Derived.Laws.Slices
import Derived.WalkKit
import Derived.KernelRfl
import Derived.RowKit3
import Derived.Deep.LoopGhost
import Derived.Deep.QuietTactic
import Derived.BigQuiet
import Derived.WideLaws
import Derived.Deep.DeepCutAuto
import Derived.Deep.CutBlock
import Derived.Deep.RegionHeld3
import Derived.Laws.Rows
import Derived.Lib.AppendStr
import Derived.ArgAppend
import Derived.Laws.IdiomCopy
import Derived.OrdersHeld
import Derived.Laws.BitsLemmas
import Derived.RowKit
import Derived.Test.YtimgfdkndlbfbaaHExt
import Derived.Test.YtimgfdkndlbfbaaWWords
import Derived.Test.YtimgfdkndlbfbaaWLast
import Derived.Test.YtimgfdkndlbfbaaWTab
import Derived.Test.YtimgfdkndlbfbaaWFour
import Derived.Test.YtimgfdkndlbfbaaWQPut
import Derived.Test.YtimgfdkndlbfbaaWApart
import Derived.Test.YtimgfdkndlbfbaaWArr
import Derived.Test.YtimgfdkndlbfbaaWZeros
import Derived.Test.YtimgfdkndlbfbaaWFoot
import Derived.Test.YtimgfdkndlbfbaaWKept
import Derived.Test.YtimgfdkndlbfbaaWShare
import Derived.Test.YtimgfdkndlbfbaaWN
import Derived.Test.YtimgfdkndlbfbaaWFootNe
import Derived.Test.YtimgfdkndlbfbaaWAt
import Derived.Test.YtimgfdkndlbfbaaWEqStruct
import Derived.Test.YtimgfdkndlbfbaaWRepsOne
import Derived.Test.YtimgfdkndlbfbaaWInv
import Derived.Test.YtimgfdkndlbfbaaWInvWords
import Derived.Test.YtimgfdkndlbfbaaWGuard
import Derived.Test.YtimgfdkndlbfbaaWNEv
import Derived.Test.YtimgfdkndlbfbaaWMore
namespace Go.Proofs.Ytimgfdkndlbfbaa.PRp
open Go.RowKit Go.Proofs.YtimgfdkndlbfbaaW.PrintWords Go.Proofs.YtimgfdkndlbfbaaW.PrintLast Go.Proofs.YtimgfdkndlbfbaaW.PrintMore
attribute [local go_sem] max2_int min2_int max_two min_two max_three min_three max_four min_four   -- for this text's walks alone
set_option linter.unusedVariables false
set_option linter.unusedSimpArgs false



def errW : Option Int → Value
  | none => .nilIface
  | some c => .iface 0 (.int .i64 c)
theorem errW_none : errW none = .nilIface := rfl
theorem errW_some (c : Int) : errW (some c) = .iface 0 (.int .i64 c) := rfl

-- the values' own types
/-! #### struct type 105 -/
structure S105 where
  f0 : Int
  f1 : Int
def z105 : S105 := ⟨(0 : Int), (0 : Int)⟩
def k105 : Kd S105 := Kd.iso (Kd.pair (Kd.int .u32) (Kd.int .u16)) (fun x : S105 => (x.f0, x.f1))
theorem k105_open {w : World} {x : S105} {cs : List Value} (h : k105.K w x cs) : cs = [.int .u32 x.f0, .int .u16 x.f1] := by
  obtain ⟨_, _, rfl, rfl, rfl⟩ := h
  exact rfl
theorem k105_openM {w : World} {base : Nat} {ok : Nat → Prop} {x : S105} {cs : List Value} (h : k105.M w base ok x cs) : cs = [.int .u32 x.f0, .int .u16 x.f1] := by
  obtain ⟨_, _, rfl, rfl, rfl⟩ := h
  exact rfl
theorem k105_mk (w : World) (x : S105)  : k105.K w x [.int .u32 x.f0, .int .u16 x.f1] := ⟨[.int .u32 x.f0], [.int .u16 x.f1], rfl, rfl, rfl⟩
theorem k105_mkM (w : World) (base : Nat) (ok : Nat → Prop) (x : S105)  : k105.M w base ok x [.int .u32 x.f0, .int .u16 x.f1] := ⟨[.int .u32 x.f0], [.int .u16 x.f1], rfl, rfl, rfl⟩
def rd_T105 (xs : List S105) (i : Int) : S105 := xs.getD i.toNat z105
theorem at_T105 {w : World} {A : Option Addr} {n : Nat} {xs : List S105} (h : Kd.C k105 w A n xs) (i : Int) (h0 : 0 ≤ i) (h1 : i < n) : ∃ ad , A = some ad ∧ w.cell? (ad.add (i.toNat * 2)) = some (.int .u32 (rd_T105 xs i).f0) ∧ w.cell? ⟨(ad.add (i.toNat * 2)).block, (ad.add (i.toNat * 2)).off + 1, none⟩ = some (.int .u16 (rd_T105 xs i).f1) := by
  obtain ⟨ad, c, e, _, hK, hc0⟩ := Kd.C_get h z105 i h0 h1
  have hc : ∀ j u, c[j]? = some u → w.cell? (ad.add (i.toNat * 2 + j)) = some u := hc0
  obtain rfl := k105_open hK
  exact ⟨ad, e, hc 0 _ rfl, by rw [← add_field _ _ 1 (by omega)]; exact hc 1 _ rfl⟩

/-! #### struct type 175 -/
structure S175 where
  f0 : S105
  f1 : Int
def z175 : S175 := ⟨z105, (0 : Int)⟩
def k175 : Kd S175 := Kd.iso (Kd.pair k105 (Kd.int .i64)) (fun x : S175 => (x.f0, x.f1))
theorem k175_open {w : World} {x : S175} {cs : List Value} (h : k175.K w x cs) : cs = [.int .u32 x.f0.f0, .int .u16 x.f0.f1, .int .i64 x.f1] := by
  obtain ⟨_, _, rfl, s0, rfl⟩ := h
  obtain rfl := k105_open s0
  exact rfl
theorem k175_openM {w : World} {base : Nat} {ok : Nat → Prop} {x : S175} {cs : List Value} (h : k175.M w base ok x cs) : cs = [.int .u32 x.f0.f0, .int .u16 x.f0.f1, .int .i64 x.f1] := by
  obtain ⟨_, _, rfl, s0, rfl⟩ := h
  obtain rfl := k105_openM s0
  exact rfl
theorem k175_mk (w : World) (x : S175)  : k175.K w x [.int .u32 x.f0.f0, .int .u16 x.f0.f1, .int .i64 x.f1] := ⟨[.int .u32 x.f0.f0, .int .u16 x.f0.f1], [.int .i64 x.f1], rfl, (k105_mk w x.f0 ), rfl⟩
theorem k175_mkM (w : World) (base : Nat) (ok : Nat → Prop) (x : S175)  : k175.M w base ok x [.int .u32 x.f0.f0, .int .u16 x.f0.f1, .int .i64 x.f1] := ⟨[.int .u32 x.f0.f0, .int .u16 x.f0.f1], [.int .i64 x.f1], rfl, (k105_mkM w base ok x.f0 ), rfl⟩
def rd_T175 (xs : List S175) (i : Int) : S175 := xs.getD i.toNat z175
theorem at_T175 {w : World} {A : Option Addr} {n : Nat} {xs : List S175} (h : Kd.C k175 w A n xs) (i : Int) (h0 : 0 ≤ i) (h1 : i < n) : ∃ ad , A = some ad ∧ w.cell? (ad.add (i.toNat * 3)) = some (.int .u32 (rd_T175 xs i).f0.f0) ∧ w.cell? ⟨(ad.add (i.toNat * 3)).block, (ad.add (i.toNat * 3)).off + 1, none⟩ = some (.int .u16 (rd_T175 xs i).f0.f1) ∧ w.cell? ⟨(ad.add (i.toNat * 3)).block, (ad.add (i.toNat * 3)).off + 2, none⟩ = some (.int .i64 (rd_T175 xs i).f1) := by
  obtain ⟨ad, c, e, _, hK, hc0⟩ := Kd.C_get h z175 i h0 h1
  have hc : ∀ j u, c[j]? = some u → w.cell? (ad.add (i.toNat * 3 + j)) = some u := hc0
  obtain rfl := k175_open hK
  exact ⟨ad, e, hc 0 _ rfl, by rw [← add_field _ _ 1 (by omega)]; exact hc 1 _ rfl, by rw [← add_field _ _ 2 (by omega)]; exact hc 2 _ rfl⟩

/-! #### struct type 107 -/
structure S107 where
  f0 : S105
  f1 : S105
def z107 : S107 := ⟨z105, z105⟩
def k107 : Kd S107 := Kd.iso (Kd.pair k105 k105) (fun x : S107 => (x.f0, x.f1))
theorem k107_open {w : World} {x : S107} {cs : List Value} (h : k107.K w x cs) : cs = [.int .u32 x.f0.f0, .int .u16 x.f0.f1, .int .u32 x.f1.f0, .int .u16 x.f1.f1] := by
  obtain ⟨_, _, rfl, s0, s2⟩ := h
  obtain rfl := k105_open s0
  obtain rfl := k105_open s2
  exact rfl
theorem k107_openM {w : World} {base : Nat} {ok : Nat → Prop} {x : S107} {cs : List Value} (h : k107.M w base ok x cs) : cs = [.int .u32 x.f0.f0, .int .u16 x.f0.f1, .int .u32 x.f1.f0, .int .u16 x.f1.f1] := by
  obtain ⟨_, _, rfl, s0, s2⟩ := h
  obtain rfl := k105_openM s0
  obtain rfl := k105_openM s2
  exact rfl
theorem k107_mk (w : World) (x : S107)  : k107.K w x [.int .u32 x.f0.f0, .int .u16 x.f0.f1, .int .u32 x.f1.f0, .int .u16 x.f1.f1] := ⟨[.int .u32 x.f0.f0, .int .u16 x.f0.f1], [.int .u32 x.f1.f0, .int .u16 x.f1.f1], rfl, (k105_mk w x.f0 ), (k105_mk w x.f1 )⟩
theorem k107_mkM (w : World) (base : Nat) (ok : Nat → Prop) (x : S107)  : k107.M w base ok x [.int .u32 x.f0.f0, .int .u16 x.f0.f1, .int .u32 x.f1.f0, .int .u16 x.f1.f1] := ⟨[.int .u32 x.f0.f0, .int .u16 x.f0.f1], [.int .u32 x.f1.f0, .int .u16 x.f1.f1], rfl, (k105_mkM w base ok x.f0 ), (k105_mkM w base ok x.f1 )⟩
def rd_T107 (xs : List S107) (i : Int) : S107 := xs.getD i.toNat z107
theorem at_T107 {w : World} {A : Option Addr} {n : Nat} {xs : List S107} (h : Kd.C k107 w A n xs) (i : Int) (h0 : 0 ≤ i) (h1 : i < n) : ∃ ad , A = some ad ∧ w.cell? (ad.add (i.toNat * 4)) = some (.int .u32 (rd_T107 xs i).f0.f0) ∧ w.cell? ⟨(ad.add (i.toNat * 4)).block, (ad.add (i.toNat * 4)).off + 1, none⟩ = some (.int .u16 (rd_T107 xs i).f0.f1) ∧ w.cell? ⟨(ad.add (i.toNat * 4)).block, (ad.add (i.toNat * 4)).off + 2, none⟩ = some (.int .u32 (rd_T107 xs i).f1.f0) ∧ w.cell? ⟨(ad.add (i.toNat * 4)).block, (ad.add (i.toNat * 4)).off + 3, none⟩ = some (.int .u16 (rd_T107 xs i).f1.f1) := by
  obtain ⟨ad, c, e, _, hK, hc0⟩ := Kd.C_get h z107 i h0 h1
  have hc : ∀ j u, c[j]? = some u → w.cell? (ad.add (i.toNat * 4 + j)) = some u := hc0
  obtain rfl := k107_open hK
  exact ⟨ad, e, hc 0 _ rfl, by rw [← add_field _ _ 1 (by omega)]; exact hc 1 _ rfl, by rw [← add_field _ _ 2 (by omega)]; exact hc 2 _ rfl, by rw [← add_field _ _ 3 (by omega)]; exact hc 3 _ rfl⟩

/-! #### struct type 177 -/
structure S177 where
  f0 : S107
  f1 : Int
def z177 : S177 := ⟨z107, (0 : Int)⟩
def k177 : Kd S177 := Kd.iso (Kd.pair k107 (Kd.int .i64)) (fun x : S177 => (x.f0, x.f1))
theorem k177_open {w : World} {x : S177} {cs : List Value} (h : k177.K w x cs) : cs = [.int .u32 x.f0.f0.f0, .int .u16 x.f0.f0.f1, .int .u32 x.f0.f1.f0, .int .u16 x.f0.f1.f1, .int .i64 x.f1] := by
  obtain ⟨_, _, rfl, s0, rfl⟩ := h
  obtain rfl := k107_open s0
  exact rfl
theorem k177_openM {w : World} {base : Nat} {ok : Nat → Prop} {x : S177} {cs : List Value} (h : k177.M w base ok x cs) : cs = [.int .u32 x.f0.f0.f0, .int .u16 x.f0.f0.f1, .int .u32 x.f0.f1.f0, .int .u16 x.f0.f1.f1, .int .i64 x.f1] := by
  obtain ⟨_, _, rfl, s0, rfl⟩ := h
  obtain rfl := k107_openM s0
  exact rfl
theorem k177_mk (w : World) (x : S177)  : k177.K w x [.int .u32 x.f0.f0.f0, .int .u16 x.f0.f0.f1, .int .u32 x.f0.f1.f0, .int .u16 x.f0.f1.f1, .int .i64 x.f1] := ⟨[.int .u32 x.f0.f0.f0, .int .u16 x.f0.f0.f1, .int .u32 x.f0.f1.f0, .int .u16 x.f0.f1.f1], [.int .i64 x.f1], rfl, (k107_mk w x.f0 ), rfl⟩
theorem k177_mkM (w : World) (base : Nat) (ok : Nat → Prop) (x : S177)  : k177.M w base ok x [.int .u32 x.f0.f0.f0, .int .u16 x.f0.f0.f1, .int .u32 x.f0.f1.f0, .int .u16 x.f0.f1.f1, .int .i64 x.f1] := ⟨[.int .u32 x.f0.f0.f0, .int .u16 x.f0.f0.f1, .int .u32 x.f0.f1.f0, .int .u16 x.f0.f1.f1], [.int .i64 x.f1], rfl, (k107_mkM w base ok x.f0 ), rfl⟩
def rd_T177 (xs : List S177) (i : Int) : S177 := xs.getD i.toNat z177
theorem at_T177 {w : World} {A : Option Addr} {n : Nat} {xs : List S177} (h : Kd.C k177 w A n xs) (i : Int) (h0 : 0 ≤ i) (h1 : i < n) : ∃ ad , A = some ad ∧ w.cell? (ad.add (i.toNat * 5)) = some (.int .u32 (rd_T177 xs i).f0.f0.f0) ∧ w.cell? ⟨(ad.add (i.toNat * 5)).block, (ad.add (i.toNat * 5)).off + 1, none⟩ = some (.int .u16 (rd_T177 xs i).f0.f0.f1) ∧ w.cell? ⟨(ad.add (i.toNat * 5)).block, (ad.add (i.toNat * 5)).off + 2, none⟩ = some (.int .u32 (rd_T177 xs i).f0.f1.f0) ∧ w.cell? ⟨(ad.add (i.toNat * 5)).block, (ad.add (i.toNat * 5)).off + 3, none⟩ = some (.int .u16 (rd_T177 xs i).f0.f1.f1) ∧ w.cell? ⟨(ad.add (i.toNat * 5)).block, (ad.add (i.toNat * 5)).off + 4, none⟩ = some (.int .i64 (rd_T177 xs i).f1) := by
  obtain ⟨ad, c, e, _, hK, hc0⟩ := Kd.C_get h z177 i h0 h1
  have hc : ∀ j u, c[j]? = some u → w.cell? (ad.add (i.toNat * 5 + j)) = some u := hc0
  obtain rfl := k177_open hK
  exact ⟨ad, e, hc 0 _ rfl, by rw [← add_field _ _ 1 (by omega)]; exact hc 1 _ rfl, by rw [← add_field _ _ 2 (by omega)]; exact hc 2 _ rfl, by rw [← add_field _ _ 3 (by omega)]; exact hc 3 _ rfl, by rw [← add_field _ _ 4 (by omega)]; exact hc 4 _ rfl⟩

end Go.Proofs.Ytimgfdkndlbfbaa.PRp
