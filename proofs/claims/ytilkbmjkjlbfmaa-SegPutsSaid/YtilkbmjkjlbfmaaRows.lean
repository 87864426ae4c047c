/-
  No cell of these rows narrows 'for every input' (looked for: loops, veiled, ifaces, maps, wideKeys, modest, calm, conditions, laid).
  DERIVED. THE GIVEN ROWS OF THIS SEAT. 11 by the template 'for every input the law returns true; each argument reads behind the call as it read before'; 0 by the template 'total and deterministic' (their statements: YtilkbmjkjlbfmaaTotals.lean).
  GIVEN WITH THE SEED: the statements are not yours to turn. If you find one false, say at which input.
  Laid BY PROGRAM, IN A SANDBOX (cutbox-rows.mjs): the forced cells as the released guide's own fill.sh prints them over the translation 9d771b79b200f8b7… (all of the seat's roots in one cut). By AI agents, Wed Nov 11 2026. No macro, syntax, notation, axiom, sorry.
-/
import Derived.Test.YtilkbmjkjlbfmaaChecked
import GoSem.Claim
import GoSem.ClaimJoined
import GoSem.ClaimMapViews
import Derived.JoinedTies
import Derived.KernelRfl
namespace Go.Proofs.Ytilkbmjkjlbfmaa
/- THE CELL 'sum', in the pinned program and in every row, IS THE sha256 OF THE DUMP (.gsa) THAT YtilkbmjkjlbfmaaProg.lean LOADS. Nothing in Lean hashes anything: it is a label: what it is worth is what the hold of that sum in a sandbox is worth. -/
noncomputable def Try.pinned : Pinned := { name := "ytilkbmjkjlbfmaa", sum := "9d771b79b200f8b736545e61b8d6d83be0afcab2a496d25819e31558a0ed8f6a", checked := Try.checked }
namespace Rows
def none {H : Type} : Left H := { results := [], args := [] }

/-- 'towropelaw09.SegSame': WHATEVER THE INPUT: true; the input reads as it did. -/
def segSameSpec : ChangeSpec := { name := "segSame", fn := fun _ => fun
  | [d1, d2] => { results := [.lit (.bool true)], args := [d1, d2] }
  | _ => none }
def segSameRow : OpenClaim := { program := "ytilkbmjkjlbfmaa", sum := "9d771b79b200f8b736545e61b8d6d83be0afcab2a496d25819e31558a0ed8f6a", func := "towrope/towropelaw09.SegSame", spec := "segSame", apart := false }
def SegSameSaid : Prop := segSameRow.holds Try.pinned (OpenSpec.ofChange segSameSpec)

/-- ITS FALSE NEIGHBOUR: 'it returns false'. Refute it at one input. -/
def segSameWrong : ChangeSpec := { name := "segSame", fn := fun _ => fun
  | [d1, d2] => { results := [.lit (.bool false)], args := [d1, d2] }
  | _ => none }
def SegSameWrongFalsely : Prop := segSameRow.holds Try.pinned (OpenSpec.ofChange segSameWrong)

/-- 'towropelaw20.RtoPlays': WHATEVER THE INPUT: true; the input reads as it did. -/
def rtoPlaysSpec : ChangeSpec := { name := "rtoPlays", fn := fun _ => fun
  | [d1, d2, d3, d4, d5] => { results := [.lit (.bool true)], args := [d1, d2, d3, d4, d5] }
  | _ => none }
def rtoPlaysRow : OpenClaim := { program := "ytilkbmjkjlbfmaa", sum := "9d771b79b200f8b736545e61b8d6d83be0afcab2a496d25819e31558a0ed8f6a", func := "towrope/towropelaw20.RtoPlays", spec := "rtoPlays", unfollowed := true, recurses := true, apart := false }
def RtoPlaysSaid : Prop := rtoPlaysRow.holds Try.pinned (OpenSpec.ofChange rtoPlaysSpec)

/-- ITS FALSE NEIGHBOUR: 'it returns false'. Refute it at one input. -/
def rtoPlaysWrong : ChangeSpec := { name := "rtoPlays", fn := fun _ => fun
  | [d1, d2, d3, d4, d5] => { results := [.lit (.bool false)], args := [d1, d2, d3, d4, d5] }
  | _ => none }
def RtoPlaysWrongFalsely : Prop := rtoPlaysRow.holds Try.pinned (OpenSpec.ofChange rtoPlaysWrong)

/-- 'towropelaw20.RtoSteady': WHATEVER THE INPUT: true; the input reads as it did. -/
def rtoSteadySpec : ChangeSpec := { name := "rtoSteady", fn := fun _ => fun
  | [d] => { results := [.lit (.bool true)], args := [d] }
  | _ => none }
def rtoSteadyRow : OpenClaim := { program := "ytilkbmjkjlbfmaa", sum := "9d771b79b200f8b736545e61b8d6d83be0afcab2a496d25819e31558a0ed8f6a", func := "towrope/towropelaw20.RtoSteady", spec := "rtoSteady", unfollowed := true, recurses := true, apart := false }
def RtoSteadySaid : Prop := rtoSteadyRow.holds Try.pinned (OpenSpec.ofChange rtoSteadySpec)

/-- ITS FALSE NEIGHBOUR: 'it returns false'. Refute it at one input. -/
def rtoSteadyWrong : ChangeSpec := { name := "rtoSteady", fn := fun _ => fun
  | [d] => { results := [.lit (.bool false)], args := [d] }
  | _ => none }
def RtoSteadyWrongFalsely : Prop := rtoSteadyRow.holds Try.pinned (OpenSpec.ofChange rtoSteadyWrong)

/-- 'towropelaw26.EntryNames': WHATEVER THE INPUT: true; the input reads as it did. -/
def entryNamesSpec : ChangeSpec := { name := "entryNames", fn := fun _ => fun
  | [d1, d2, d3, d4, d5] => { results := [.lit (.bool true)], args := [d1, d2, d3, d4, d5] }
  | _ => none }
def entryNamesRow : OpenClaim := { program := "ytilkbmjkjlbfmaa", sum := "9d771b79b200f8b736545e61b8d6d83be0afcab2a496d25819e31558a0ed8f6a", func := "towrope/towropelaw26.EntryNames", spec := "entryNames", apart := false }
def EntryNamesSaid : Prop := entryNamesRow.holds Try.pinned (OpenSpec.ofChange entryNamesSpec)

/-- ITS FALSE NEIGHBOUR: 'it returns false'. Refute it at one input. -/
def entryNamesWrong : ChangeSpec := { name := "entryNames", fn := fun _ => fun
  | [d1, d2, d3, d4, d5] => { results := [.lit (.bool false)], args := [d1, d2, d3, d4, d5] }
  | _ => none }
def EntryNamesWrongFalsely : Prop := entryNamesRow.holds Try.pinned (OpenSpec.ofChange entryNamesWrong)

/-- 'towropelaw26.EntryChecks': WHATEVER THE INPUT: true; the input reads as it did. -/
def entryChecksSpec : ChangeSpec := { name := "entryChecks", fn := fun _ => fun
  | [d] => { results := [.lit (.bool true)], args := [d] }
  | _ => none }
def entryChecksRow : OpenClaim := { program := "ytilkbmjkjlbfmaa", sum := "9d771b79b200f8b736545e61b8d6d83be0afcab2a496d25819e31558a0ed8f6a", func := "towrope/towropelaw26.EntryChecks", spec := "entryChecks", apart := false }
def EntryChecksSaid : Prop := entryChecksRow.holds Try.pinned (OpenSpec.ofChange entryChecksSpec)

/-- ITS FALSE NEIGHBOUR: 'it returns false'. Refute it at one input. -/
def entryChecksWrong : ChangeSpec := { name := "entryChecks", fn := fun _ => fun
  | [d] => { results := [.lit (.bool false)], args := [d] }
  | _ => none }
def EntryChecksWrongFalsely : Prop := entryChecksRow.holds Try.pinned (OpenSpec.ofChange entryChecksWrong)

/-- 'towropelaw09.SegOptions': WHATEVER THE INPUT: true; the input reads as it did. -/
def segOptionsSpec : ChangeSpec := { name := "segOptions", fn := fun _ => fun
  | [d1, d2, d3] => { results := [.lit (.bool true)], args := [d1, d2, d3] }
  | _ => none }
def segOptionsRow : OpenClaim := { program := "ytilkbmjkjlbfmaa", sum := "9d771b79b200f8b736545e61b8d6d83be0afcab2a496d25819e31558a0ed8f6a", func := "towrope/towropelaw09.SegOptions", spec := "segOptions", apart := false }
def SegOptionsSaid : Prop := segOptionsRow.holds Try.pinned (OpenSpec.ofChange segOptionsSpec)

/-- ITS FALSE NEIGHBOUR: 'it returns false'. Refute it at one input. -/
def segOptionsWrong : ChangeSpec := { name := "segOptions", fn := fun _ => fun
  | [d1, d2, d3] => { results := [.lit (.bool false)], args := [d1, d2, d3] }
  | _ => none }
def SegOptionsWrongFalsely : Prop := segOptionsRow.holds Try.pinned (OpenSpec.ofChange segOptionsWrong)

/-- 'towropelaw26.EntryGets': WHATEVER THE INPUT: true; the input reads as it did. -/
def entryGetsSpec : ChangeSpec := { name := "entryGets", fn := fun _ => fun
  | [d] => { results := [.lit (.bool true)], args := [d] }
  | _ => none }
def entryGetsRow : OpenClaim := { program := "ytilkbmjkjlbfmaa", sum := "9d771b79b200f8b736545e61b8d6d83be0afcab2a496d25819e31558a0ed8f6a", func := "towrope/towropelaw26.EntryGets", spec := "entryGets", unfollowed := true, recurses := true, apart := false }
def EntryGetsSaid : Prop := entryGetsRow.holds Try.pinned (OpenSpec.ofChange entryGetsSpec)

/-- ITS FALSE NEIGHBOUR: 'it returns false'. Refute it at one input. -/
def entryGetsWrong : ChangeSpec := { name := "entryGets", fn := fun _ => fun
  | [d] => { results := [.lit (.bool false)], args := [d] }
  | _ => none }
def EntryGetsWrongFalsely : Prop := entryGetsRow.holds Try.pinned (OpenSpec.ofChange entryGetsWrong)

/-- 'towropelaw26.EntryPuts': WHATEVER THE INPUT: true; the input reads as it did. -/
def entryPutsSpec : ChangeSpec := { name := "entryPuts", fn := fun _ => fun
  | [d1, d2, d3] => { results := [.lit (.bool true)], args := [d1, d2, d3] }
  | _ => none }
def entryPutsRow : OpenClaim := { program := "ytilkbmjkjlbfmaa", sum := "9d771b79b200f8b736545e61b8d6d83be0afcab2a496d25819e31558a0ed8f6a", func := "towrope/towropelaw26.EntryPuts", spec := "entryPuts", unfollowed := true, recurses := true, apart := false }
def EntryPutsSaid : Prop := entryPutsRow.holds Try.pinned (OpenSpec.ofChange entryPutsSpec)

/-- ITS FALSE NEIGHBOUR: 'it returns false'. Refute it at one input. -/
def entryPutsWrong : ChangeSpec := { name := "entryPuts", fn := fun _ => fun
  | [d1, d2, d3] => { results := [.lit (.bool false)], args := [d1, d2, d3] }
  | _ => none }
def EntryPutsWrongFalsely : Prop := entryPutsRow.holds Try.pinned (OpenSpec.ofChange entryPutsWrong)

/-- 'towropelaw09.SegGets': WHATEVER THE INPUT: true; the input reads as it did. -/
def segGetsSpec : ChangeSpec := { name := "segGets", fn := fun _ => fun
  | [d1, d2, d3] => { results := [.lit (.bool true)], args := [d1, d2, d3] }
  | _ => none }
def segGetsRow : OpenClaim := { program := "ytilkbmjkjlbfmaa", sum := "9d771b79b200f8b736545e61b8d6d83be0afcab2a496d25819e31558a0ed8f6a", func := "towrope/towropelaw09.SegGets", spec := "segGets", unfollowed := true, recurses := true, apart := false }
def SegGetsSaid : Prop := segGetsRow.holds Try.pinned (OpenSpec.ofChange segGetsSpec)

/-- ITS FALSE NEIGHBOUR: 'it returns false'. Refute it at one input. -/
def segGetsWrong : ChangeSpec := { name := "segGets", fn := fun _ => fun
  | [d1, d2, d3] => { results := [.lit (.bool false)], args := [d1, d2, d3] }
  | _ => none }
def SegGetsWrongFalsely : Prop := segGetsRow.holds Try.pinned (OpenSpec.ofChange segGetsWrong)

/-- 'towropelaw09.SegTurned': WHATEVER THE INPUT: true; the input reads as it did. -/
def segTurnedSpec : ChangeSpec := { name := "segTurned", fn := fun _ => fun
  | [d1, d2, d3, d4, d5] => { results := [.lit (.bool true)], args := [d1, d2, d3, d4, d5] }
  | _ => none }
def segTurnedRow : OpenClaim := { program := "ytilkbmjkjlbfmaa", sum := "9d771b79b200f8b736545e61b8d6d83be0afcab2a496d25819e31558a0ed8f6a", func := "towrope/towropelaw09.SegTurned", spec := "segTurned", unfollowed := true, recurses := true, apart := false }
def SegTurnedSaid : Prop := segTurnedRow.holds Try.pinned (OpenSpec.ofChange segTurnedSpec)

/-- ITS FALSE NEIGHBOUR: 'it returns false'. Refute it at one input. -/
def segTurnedWrong : ChangeSpec := { name := "segTurned", fn := fun _ => fun
  | [d1, d2, d3, d4, d5] => { results := [.lit (.bool false)], args := [d1, d2, d3, d4, d5] }
  | _ => none }
def SegTurnedWrongFalsely : Prop := segTurnedRow.holds Try.pinned (OpenSpec.ofChange segTurnedWrong)

/-- 'towropelaw09.SegPuts': WHATEVER THE INPUT: true; the input reads as it did. -/
def segPutsSpec : ChangeSpec := { name := "segPuts", fn := fun _ => fun
  | [d1, d2, d3] => { results := [.lit (.bool true)], args := [d1, d2, d3] }
  | _ => none }
def segPutsRow : OpenClaim := { program := "ytilkbmjkjlbfmaa", sum := "9d771b79b200f8b736545e61b8d6d83be0afcab2a496d25819e31558a0ed8f6a", func := "towrope/towropelaw09.SegPuts", spec := "segPuts", unfollowed := true, recurses := true, apart := false }
def SegPutsSaid : Prop := segPutsRow.holds Try.pinned (OpenSpec.ofChange segPutsSpec)

/-- ITS FALSE NEIGHBOUR: 'it returns false'. Refute it at one input. -/
def segPutsWrong : ChangeSpec := { name := "segPuts", fn := fun _ => fun
  | [d1, d2, d3] => { results := [.lit (.bool false)], args := [d1, d2, d3] }
  | _ => none }
def SegPutsWrongFalsely : Prop := segPutsRow.holds Try.pinned (OpenSpec.ofChange segPutsWrong)

/- THE SECOND FORM. 'bulk': how many values and letters a reading holds, each counted each time it is reached (what is shared counts as often as it is met; a slice's spare places count too). A statement '..UptoSaid' is the law's where the arguments, and the package variables that the reading takes, are together of bulk at most 1048576: NARROWER than '..Said'. Prove '..Said' where nothing that the law and all that it calls make is longer than what came in: it says more and counts as full. Else prove '..UptoSaid'. A law counts once. -/
mutual
def uptoBulk {H : Type} : DataW H → Nat
  | .lit (.string bytes) => bytes.length + 1
  | .lit _ => 1
  | .nil => 1
  | .ptr d => uptoBulk d + 1
  | .slice elems spare => uptoBulkAll elems + uptoBulkAll spare + 1
  | .agg parts => uptoBulkAll parts + 1
  | .iface _ d => uptoBulk d + 1
  | .map entries => uptoBulkEntries entries + 1
  | .held _ => 1
def uptoBulkAll {H : Type} : List (DataW H) → Nat
  | [] => 0
  | d :: r => uptoBulk d + uptoBulkAll r
def uptoBulkEntries {H : Type} : List (Lit × DataW H) → Nat
  | [] => 0
  | x :: r => uptoBulkEntry x + uptoBulkEntries r
def uptoBulkEntry {H : Type} : Lit × DataW H → Nat
  | (.string bytes, d) => bytes.length + uptoBulk d + 1
  | (_, d) => uptoBulk d + 1
 end
def uptoSmall : (H : Type) → List (DataW H) → Bool := fun _ ds => decide (uptoBulkAll ds ≤ 1048576)
def OpenSpec.upto (s : _root_.Go.ChangeSpec) : _root_.Go.OpenSpec := { _root_.Go.OpenSpec.ofChange s with cond := some uptoSmall }

/-- 'towropelaw09.SegSame', WHERE WHAT IT READS IS OF BULK AT MOST 1048576: true; the input reads as it did. -/
def segSameUptoRow : OpenClaim := { program := "ytilkbmjkjlbfmaa", sum := "9d771b79b200f8b736545e61b8d6d83be0afcab2a496d25819e31558a0ed8f6a", func := "towrope/towropelaw09.SegSame", spec := "segSame", apart := false, narrowed := true }
def SegSameUptoSaid : Prop := segSameUptoRow.holds Try.pinned (OpenSpec.upto segSameSpec)

/-- 'towropelaw20.RtoPlays', WHERE WHAT IT READS IS OF BULK AT MOST 1048576: true; the input reads as it did. -/
def rtoPlaysUptoRow : OpenClaim := { program := "ytilkbmjkjlbfmaa", sum := "9d771b79b200f8b736545e61b8d6d83be0afcab2a496d25819e31558a0ed8f6a", func := "towrope/towropelaw20.RtoPlays", spec := "rtoPlays", unfollowed := true, recurses := true, apart := false, narrowed := true }
def RtoPlaysUptoSaid : Prop := rtoPlaysUptoRow.holds Try.pinned (OpenSpec.upto rtoPlaysSpec)

/-- 'towropelaw20.RtoSteady', WHERE WHAT IT READS IS OF BULK AT MOST 1048576: true; the input reads as it did. -/
def rtoSteadyUptoRow : OpenClaim := { program := "ytilkbmjkjlbfmaa", sum := "9d771b79b200f8b736545e61b8d6d83be0afcab2a496d25819e31558a0ed8f6a", func := "towrope/towropelaw20.RtoSteady", spec := "rtoSteady", unfollowed := true, recurses := true, apart := false, narrowed := true }
def RtoSteadyUptoSaid : Prop := rtoSteadyUptoRow.holds Try.pinned (OpenSpec.upto rtoSteadySpec)

/-- 'towropelaw26.EntryNames', WHERE WHAT IT READS IS OF BULK AT MOST 1048576: true; the input reads as it did. -/
def entryNamesUptoRow : OpenClaim := { program := "ytilkbmjkjlbfmaa", sum := "9d771b79b200f8b736545e61b8d6d83be0afcab2a496d25819e31558a0ed8f6a", func := "towrope/towropelaw26.EntryNames", spec := "entryNames", apart := false, narrowed := true }
def EntryNamesUptoSaid : Prop := entryNamesUptoRow.holds Try.pinned (OpenSpec.upto entryNamesSpec)

/-- 'towropelaw26.EntryChecks', WHERE WHAT IT READS IS OF BULK AT MOST 1048576: true; the input reads as it did. -/
def entryChecksUptoRow : OpenClaim := { program := "ytilkbmjkjlbfmaa", sum := "9d771b79b200f8b736545e61b8d6d83be0afcab2a496d25819e31558a0ed8f6a", func := "towrope/towropelaw26.EntryChecks", spec := "entryChecks", apart := false, narrowed := true }
def EntryChecksUptoSaid : Prop := entryChecksUptoRow.holds Try.pinned (OpenSpec.upto entryChecksSpec)

/-- 'towropelaw09.SegOptions', WHERE WHAT IT READS IS OF BULK AT MOST 1048576: true; the input reads as it did. -/
def segOptionsUptoRow : OpenClaim := { program := "ytilkbmjkjlbfmaa", sum := "9d771b79b200f8b736545e61b8d6d83be0afcab2a496d25819e31558a0ed8f6a", func := "towrope/towropelaw09.SegOptions", spec := "segOptions", apart := false, narrowed := true }
def SegOptionsUptoSaid : Prop := segOptionsUptoRow.holds Try.pinned (OpenSpec.upto segOptionsSpec)

/-- 'towropelaw26.EntryGets', WHERE WHAT IT READS IS OF BULK AT MOST 1048576: true; the input reads as it did. -/
def entryGetsUptoRow : OpenClaim := { program := "ytilkbmjkjlbfmaa", sum := "9d771b79b200f8b736545e61b8d6d83be0afcab2a496d25819e31558a0ed8f6a", func := "towrope/towropelaw26.EntryGets", spec := "entryGets", unfollowed := true, recurses := true, apart := false, narrowed := true }
def EntryGetsUptoSaid : Prop := entryGetsUptoRow.holds Try.pinned (OpenSpec.upto entryGetsSpec)

/-- 'towropelaw26.EntryPuts', WHERE WHAT IT READS IS OF BULK AT MOST 1048576: true; the input reads as it did. -/
def entryPutsUptoRow : OpenClaim := { program := "ytilkbmjkjlbfmaa", sum := "9d771b79b200f8b736545e61b8d6d83be0afcab2a496d25819e31558a0ed8f6a", func := "towrope/towropelaw26.EntryPuts", spec := "entryPuts", unfollowed := true, recurses := true, apart := false, narrowed := true }
def EntryPutsUptoSaid : Prop := entryPutsUptoRow.holds Try.pinned (OpenSpec.upto entryPutsSpec)

/-- 'towropelaw09.SegGets', WHERE WHAT IT READS IS OF BULK AT MOST 1048576: true; the input reads as it did. -/
def segGetsUptoRow : OpenClaim := { program := "ytilkbmjkjlbfmaa", sum := "9d771b79b200f8b736545e61b8d6d83be0afcab2a496d25819e31558a0ed8f6a", func := "towrope/towropelaw09.SegGets", spec := "segGets", unfollowed := true, recurses := true, apart := false, narrowed := true }
def SegGetsUptoSaid : Prop := segGetsUptoRow.holds Try.pinned (OpenSpec.upto segGetsSpec)

/-- 'towropelaw09.SegTurned', WHERE WHAT IT READS IS OF BULK AT MOST 1048576: true; the input reads as it did. -/
def segTurnedUptoRow : OpenClaim := { program := "ytilkbmjkjlbfmaa", sum := "9d771b79b200f8b736545e61b8d6d83be0afcab2a496d25819e31558a0ed8f6a", func := "towrope/towropelaw09.SegTurned", spec := "segTurned", unfollowed := true, recurses := true, apart := false, narrowed := true }
def SegTurnedUptoSaid : Prop := segTurnedUptoRow.holds Try.pinned (OpenSpec.upto segTurnedSpec)

/-- 'towropelaw09.SegPuts', WHERE WHAT IT READS IS OF BULK AT MOST 1048576: true; the input reads as it did. -/
def segPutsUptoRow : OpenClaim := { program := "ytilkbmjkjlbfmaa", sum := "9d771b79b200f8b736545e61b8d6d83be0afcab2a496d25819e31558a0ed8f6a", func := "towrope/towropelaw09.SegPuts", spec := "segPuts", unfollowed := true, recurses := true, apart := false, narrowed := true }
def SegPutsUptoSaid : Prop := segPutsUptoRow.holds Try.pinned (OpenSpec.upto segPutsSpec)

end Rows
end Go.Proofs.Ytilkbmjkjlbfmaa
