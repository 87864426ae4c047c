/- The table that strconv.Itoa reads, kept over what is made; strconv.Itoa and strings.Join by the shelf's contracts (laid at this dump). Conditions: each theorem's own. -/
import Derived.Test.YtcebnaknodghcaaDoorShelf
import Derived.Test.YtcebnaknodghcaaDoorHExt
import Derived.Lib.LaidTab
import Derived.Lib.ItoaNum
import Derived.Lib.AppendIntMem
namespace Go.Proofs.YtcebnaknodghcaaDoor.HItoa
open Go.RowKit Go.Proofs.YtcebnaknodghcaaDoorW.PrintWords Go.Proofs.YtcebnaknodghcaaDoorW.PrintLast Go.Proofs.YtcebnaknodghcaaDoorW.PrintMore
set_option linter.unusedVariables false
/-- The table of the powers of ten lies as its initialiser lays it. -/
def Tab (w : World) : Prop := Lib.TabIs Tryd.prog w "internal/strconv.uint64pow10" .u64 Lib.pow10Tab
theorem Tab.below {w w' : World} (h : Tab w) (hb : Below w.heap.size w w') : Tab w' := by
  unfold Tab Lib.TabIs World.var? at *
  obtain ⟨g, hg, hv⟩ := Option.bind_eq_some_iff.1 h
  rw [hg]
  show (match w'.heap[g]? with | some (.cells cs _ _) => some cs | _ => none) = _
  have hv' : (match w.heap[g]? with | some (.cells cs _ _) => some cs | _ => none) = some ((Lib.pow10Tab.map fun z => Value.int .u64 z).toArray) := hv
  cases ho : w.heap[g]? with
  | none => rw [ho] at hv'; cases hv'
  | some o => rw [hb.block g (Array.getElem?_eq_some_iff.1 ho).1]; exact hv'
theorem g10 : Tryd.prog.globalNamed "internal/strconv.uint64pow10" = some 1 := by kernel_rfl
theorem g10t : (Tryd.prog.globals[1]?).map (·.type) = some 212 := by kernel_rfl
theorem c10 : Tryd.prog.cellsOf 212 = 20 := by kernel_rfl
theorem c64 : Tryd.prog.cellsOf 28 = 1 := by kernel_rfl
theorem tab_of_laid {W : World} {rest : List (String × DataW Unit)} (h : laidMet Tryd.prog (("internal/strconv.uint64pow10", Lib.tabData .u64 Lib.pow10Tab) :: rest) W) : Tab W :=
  Lib.tabIs_of_head g10 g10t Tryd.underlying212 Tryd.underlying28 c64 c10 h
theorem itoa_calls (n : Int) (h0 : -9223372036854775808 ≤ n) (h1 : n ≤ 9223372036854775807) (w : World) (ht : Tab w) :
    Calls Tryd.prog 62 #[.int .i64 n] w fun e w' => e = .returned (.string ⟨(Lib.itoa n).toArray⟩) ∧ Below w.heap.size w w' :=
  (Tryd.strconv_Itoa n h0 h1 w ht).mono fun e w' ⟨he, k, os, hw⟩ => ⟨he, by rw [hw]; exact Lib.below_grow _ w (Nat.le_refl _) k os⟩
theorem join_calls (A : Option Addr) (c : Nat) (xs : List ByteArray) (sep : ByteArray) (w : World) (hr : Kd.C Kd.string w A xs.length xs) (hc : xs.length ≤ c) (hN : xs.length ≤ 140737488355328) (hlen : (Lib.join (xs.map (·.data.toList)) sep.data.toList).length ≤ 140737488355328) :
    Calls Tryd.prog 63 #[.slice A xs.length c, .string sep] w fun e w' => e = .returned (.string ⟨(Lib.join (xs.map (·.data.toList)) sep.data.toList).toArray⟩) ∧ Below w.heap.size w w' := by
  cases xs with
  | nil => exact (Tryd.strings_Join_none A c sep w).mono fun e w' ⟨he, hw⟩ => ⟨by rw [he]; rfl, by rw [hw]; exact Below.refl _ _⟩
  | cons x r =>
    have h' := Kd.reads_of_C (enc := Value.string) (d := (⟨#[]⟩ : ByteArray)) (h1 := fun _ => rfl) hr
    obtain ⟨ad, rfl, hcell⟩ := h'.2.2 (by simp)
    have h0 := hcell 0 (by simp)
    obtain ⟨b, o, sp⟩ := ad
    have hb : b < w.heap.size := World.block_lt_of_cell? w ⟨b, o, sp⟩ h0
    obtain rfl : sp = none := by
      cases sp with
      | none => rfl
      | some q =>
        have e0 : w.cell? ⟨b, o, some q⟩ = some (Value.string x) := h0
        unfold World.cell? at e0
        simp at e0
        split at e0 <;> simp at e0
    refine Tryd.strings_Join b o c (x :: r) sep w (fun j y hj => ?_) hb hN hc hlen
    have hjl : j < (x :: r).length := (List.getElem?_eq_some_iff.1 hj).1
    have h1 := hcell j hjl
    rw [List.getD_eq_getElem?_getD, hj] at h1
    rw [← show (Addr.mk b o none).add j = ⟨b, o + j, none⟩ by unfold Addr.add; split <;> simp_all]
    exact h1
end Go.Proofs.YtcebnaknodghcaaDoor.HItoa
