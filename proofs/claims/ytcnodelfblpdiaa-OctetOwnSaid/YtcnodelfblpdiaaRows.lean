/-
  No cell of these rows narrows 'for every input' (looked for: loops, veiled, ifaces, maps, wideKeys, modest, calm, conditions, laid).
  DERIVED. THE GIVEN ROWS OF THIS SEAT. 16 by the template 'for every input the law returns true; each argument reads behind the call as it read before'; 0 by the template 'total and deterministic' (their statements: YtcnodelfblpdiaaTotals.lean).
  GIVEN WITH THE SEED: the statements are not yours to turn. If you find one false, say at which input.
  Laid BY PROGRAM, IN A SANDBOX (cutbox-rows.mjs): the forced cells as the released guide's own fill.sh prints them over the translation 4b40e94daa097c78… (all of the seat's roots in one cut). By AI agents, Wed Nov 11 2026. No macro, syntax, notation, axiom, sorry.
-/
import Derived.Test.YtcnodelfblpdiaaChecked
import GoSem.Claim
import GoSem.ClaimJoined
import GoSem.ClaimMapViews
import Derived.JoinedTies
import Derived.KernelRfl
namespace Go.Proofs.Ytcnodelfblpdiaa
/- THE CELL 'sum', in the pinned program and in every row, IS THE sha256 OF THE DUMP (.gsa) THAT YtcnodelfblpdiaaProg.lean LOADS. Nothing in Lean hashes anything: it is a label: what it is worth is what the hold of that sum in a sandbox is worth. -/
noncomputable def Try.pinned : Pinned := { name := "ytcnodelfblpdiaa", sum := "4b40e94daa097c784ca65a4e168e23ad22b627e12c8526a8b5d043418e86d9ec", checked := Try.checked }
namespace Rows
def none {H : Type} : Left H := { results := [], args := [] }

/-- 'towropelaw03.SeqTrims': WHATEVER THE INPUT: true; the input reads as it did. -/
def seqTrimsSpec : ChangeSpec := { name := "seqTrims", fn := fun _ => fun
  | [d1, d2, d3, d4, d5] => { results := [.lit (.bool true)], args := [d1, d2, d3, d4, d5] }
  | _ => none }
def seqTrimsRow : OpenClaim := { program := "ytcnodelfblpdiaa", sum := "4b40e94daa097c784ca65a4e168e23ad22b627e12c8526a8b5d043418e86d9ec", func := "towrope/towropelaw03.SeqTrims", spec := "seqTrims", apart := false }
def SeqTrimsSaid : Prop := seqTrimsRow.holds Try.pinned (OpenSpec.ofChange seqTrimsSpec)

/-- ITS FALSE NEIGHBOUR: 'it returns false'. Refute it at one input. -/
def seqTrimsWrong : ChangeSpec := { name := "seqTrims", fn := fun _ => fun
  | [d1, d2, d3, d4, d5] => { results := [.lit (.bool false)], args := [d1, d2, d3, d4, d5] }
  | _ => none }
def SeqTrimsWrongFalsely : Prop := seqTrimsRow.holds Try.pinned (OpenSpec.ofChange seqTrimsWrong)

/-- 'towropelaw01.OctetPuts': WHATEVER THE INPUT: true; the input reads as it did. -/
def octetPutsSpec : ChangeSpec := { name := "octetPuts", fn := fun _ => fun
  | [d1, d2, d3] => { results := [.lit (.bool true)], args := [d1, d2, d3] }
  | _ => none }
def octetPutsRow : OpenClaim := { program := "ytcnodelfblpdiaa", sum := "4b40e94daa097c784ca65a4e168e23ad22b627e12c8526a8b5d043418e86d9ec", func := "towrope/towropelaw01.OctetPuts", spec := "octetPuts", apart := false }
def OctetPutsSaid : Prop := octetPutsRow.holds Try.pinned (OpenSpec.ofChange octetPutsSpec)

/-- ITS FALSE NEIGHBOUR: 'it returns false'. Refute it at one input. -/
def octetPutsWrong : ChangeSpec := { name := "octetPuts", fn := fun _ => fun
  | [d1, d2, d3] => { results := [.lit (.bool false)], args := [d1, d2, d3] }
  | _ => none }
def OctetPutsWrongFalsely : Prop := octetPutsRow.holds Try.pinned (OpenSpec.ofChange octetPutsWrong)

/-- 'towropelaw03.SeqPairs': WHATEVER THE INPUT: true; the input reads as it did. -/
def seqPairsSpec : ChangeSpec := { name := "seqPairs", fn := fun _ => fun
  | [d1, d2, d3] => { results := [.lit (.bool true)], args := [d1, d2, d3] }
  | _ => none }
def seqPairsRow : OpenClaim := { program := "ytcnodelfblpdiaa", sum := "4b40e94daa097c784ca65a4e168e23ad22b627e12c8526a8b5d043418e86d9ec", func := "towrope/towropelaw03.SeqPairs", spec := "seqPairs", apart := false }
def SeqPairsSaid : Prop := seqPairsRow.holds Try.pinned (OpenSpec.ofChange seqPairsSpec)

/-- ITS FALSE NEIGHBOUR: 'it returns false'. Refute it at one input. -/
def seqPairsWrong : ChangeSpec := { name := "seqPairs", fn := fun _ => fun
  | [d1, d2, d3] => { results := [.lit (.bool false)], args := [d1, d2, d3] }
  | _ => none }
def SeqPairsWrongFalsely : Prop := seqPairsRow.holds Try.pinned (OpenSpec.ofChange seqPairsWrong)

/-- 'towropelaw03.SeqHalves': WHATEVER THE INPUT: true; the input reads as it did. -/
def seqHalvesSpec : ChangeSpec := { name := "seqHalves", fn := fun _ => fun
  | [d1, d2, d3] => { results := [.lit (.bool true)], args := [d1, d2, d3] }
  | _ => none }
def seqHalvesRow : OpenClaim := { program := "ytcnodelfblpdiaa", sum := "4b40e94daa097c784ca65a4e168e23ad22b627e12c8526a8b5d043418e86d9ec", func := "towrope/towropelaw03.SeqHalves", spec := "seqHalves", apart := false }
def SeqHalvesSaid : Prop := seqHalvesRow.holds Try.pinned (OpenSpec.ofChange seqHalvesSpec)

/-- ITS FALSE NEIGHBOUR: 'it returns false'. Refute it at one input. -/
def seqHalvesWrong : ChangeSpec := { name := "seqHalves", fn := fun _ => fun
  | [d1, d2, d3] => { results := [.lit (.bool false)], args := [d1, d2, d3] }
  | _ => none }
def SeqHalvesWrongFalsely : Prop := seqHalvesRow.holds Try.pinned (OpenSpec.ofChange seqHalvesWrong)

/-- 'towropelaw01.OctetCuts': WHATEVER THE INPUT: true; the input reads as it did. -/
def octetCutsSpec : ChangeSpec := { name := "octetCuts", fn := fun _ => fun
  | [d1, d2, d3] => { results := [.lit (.bool true)], args := [d1, d2, d3] }
  | _ => none }
def octetCutsRow : OpenClaim := { program := "ytcnodelfblpdiaa", sum := "4b40e94daa097c784ca65a4e168e23ad22b627e12c8526a8b5d043418e86d9ec", func := "towrope/towropelaw01.OctetCuts", spec := "octetCuts", apart := false }
def OctetCutsSaid : Prop := octetCutsRow.holds Try.pinned (OpenSpec.ofChange octetCutsSpec)

/-- ITS FALSE NEIGHBOUR: 'it returns false'. Refute it at one input. -/
def octetCutsWrong : ChangeSpec := { name := "octetCuts", fn := fun _ => fun
  | [d1, d2, d3] => { results := [.lit (.bool false)], args := [d1, d2, d3] }
  | _ => none }
def OctetCutsWrongFalsely : Prop := octetCutsRow.holds Try.pinned (OpenSpec.ofChange octetCutsWrong)

/-- 'towropelaw03.SeqAccepts': WHATEVER THE INPUT: true; the input reads as it did. -/
def seqAcceptsSpec : ChangeSpec := { name := "seqAccepts", fn := fun _ => fun
  | [d1, d2, d3, d4] => { results := [.lit (.bool true)], args := [d1, d2, d3, d4] }
  | _ => none }
def seqAcceptsRow : OpenClaim := { program := "ytcnodelfblpdiaa", sum := "4b40e94daa097c784ca65a4e168e23ad22b627e12c8526a8b5d043418e86d9ec", func := "towrope/towropelaw03.SeqAccepts", spec := "seqAccepts", unfollowed := true, recurses := true, apart := false }
def SeqAcceptsSaid : Prop := seqAcceptsRow.holds Try.pinned (OpenSpec.ofChange seqAcceptsSpec)

/-- ITS FALSE NEIGHBOUR: 'it returns false'. Refute it at one input. -/
def seqAcceptsWrong : ChangeSpec := { name := "seqAccepts", fn := fun _ => fun
  | [d1, d2, d3, d4] => { results := [.lit (.bool false)], args := [d1, d2, d3, d4] }
  | _ => none }
def SeqAcceptsWrongFalsely : Prop := seqAcceptsRow.holds Try.pinned (OpenSpec.ofChange seqAcceptsWrong)

/-- 'towropelaw03.SeqLaws': WHATEVER THE INPUT: true; the input reads as it did. -/
def seqLawsSpec : ChangeSpec := { name := "seqLaws", fn := fun _ => fun
  | [d1, d2, d3, d4] => { results := [.lit (.bool true)], args := [d1, d2, d3, d4] }
  | _ => none }
def seqLawsRow : OpenClaim := { program := "ytcnodelfblpdiaa", sum := "4b40e94daa097c784ca65a4e168e23ad22b627e12c8526a8b5d043418e86d9ec", func := "towrope/towropelaw03.SeqLaws", spec := "seqLaws", unfollowed := true, recurses := true, apart := false }
def SeqLawsSaid : Prop := seqLawsRow.holds Try.pinned (OpenSpec.ofChange seqLawsSpec)

/-- ITS FALSE NEIGHBOUR: 'it returns false'. Refute it at one input. -/
def seqLawsWrong : ChangeSpec := { name := "seqLaws", fn := fun _ => fun
  | [d1, d2, d3, d4] => { results := [.lit (.bool false)], args := [d1, d2, d3, d4] }
  | _ => none }
def SeqLawsWrongFalsely : Prop := seqLawsRow.holds Try.pinned (OpenSpec.ofChange seqLawsWrong)

/-- 'towropelaw02.SumTells': WHATEVER THE INPUT: true; the input reads as it did. -/
def sumTellsSpec : ChangeSpec := { name := "sumTells", fn := fun _ => fun
  | [d] => { results := [.lit (.bool true)], args := [d] }
  | _ => none }
def sumTellsRow : OpenClaim := { program := "ytcnodelfblpdiaa", sum := "4b40e94daa097c784ca65a4e168e23ad22b627e12c8526a8b5d043418e86d9ec", func := "towrope/towropelaw02.SumTells", spec := "sumTells", unfollowed := true, recurses := true, apart := false }
def SumTellsSaid : Prop := sumTellsRow.holds Try.pinned (OpenSpec.ofChange sumTellsSpec)

/-- ITS FALSE NEIGHBOUR: 'it returns false'. Refute it at one input. -/
def sumTellsWrong : ChangeSpec := { name := "sumTells", fn := fun _ => fun
  | [d] => { results := [.lit (.bool false)], args := [d] }
  | _ => none }
def SumTellsWrongFalsely : Prop := sumTellsRow.holds Try.pinned (OpenSpec.ofChange sumTellsWrong)

/-- 'towropelaw02.SumRight': WHATEVER THE INPUT: true; the input reads as it did. -/
def sumRightSpec : ChangeSpec := { name := "sumRight", fn := fun _ => fun
  | [d1, d2] => { results := [.lit (.bool true)], args := [d1, d2] }
  | _ => none }
def sumRightRow : OpenClaim := { program := "ytcnodelfblpdiaa", sum := "4b40e94daa097c784ca65a4e168e23ad22b627e12c8526a8b5d043418e86d9ec", func := "towrope/towropelaw02.SumRight", spec := "sumRight", unfollowed := true, recurses := true, apart := false }
def SumRightSaid : Prop := sumRightRow.holds Try.pinned (OpenSpec.ofChange sumRightSpec)

/-- ITS FALSE NEIGHBOUR: 'it returns false'. Refute it at one input. -/
def sumRightWrong : ChangeSpec := { name := "sumRight", fn := fun _ => fun
  | [d1, d2] => { results := [.lit (.bool false)], args := [d1, d2] }
  | _ => none }
def SumRightWrongFalsely : Prop := sumRightRow.holds Try.pinned (OpenSpec.ofChange sumRightWrong)

/-- 'towropelaw01.OctetGets': WHATEVER THE INPUT: true; the input reads as it did. -/
def octetGetsSpec : ChangeSpec := { name := "octetGets", fn := fun _ => fun
  | [d1, d2] => { results := [.lit (.bool true)], args := [d1, d2] }
  | _ => none }
def octetGetsRow : OpenClaim := { program := "ytcnodelfblpdiaa", sum := "4b40e94daa097c784ca65a4e168e23ad22b627e12c8526a8b5d043418e86d9ec", func := "towrope/towropelaw01.OctetGets", spec := "octetGets", apart := false }
def OctetGetsSaid : Prop := octetGetsRow.holds Try.pinned (OpenSpec.ofChange octetGetsSpec)

/-- ITS FALSE NEIGHBOUR: 'it returns false'. Refute it at one input. -/
def octetGetsWrong : ChangeSpec := { name := "octetGets", fn := fun _ => fun
  | [d1, d2] => { results := [.lit (.bool false)], args := [d1, d2] }
  | _ => none }
def OctetGetsWrongFalsely : Prop := octetGetsRow.holds Try.pinned (OpenSpec.ofChange octetGetsWrong)

/-- 'towropelaw02.SumAdds': WHATEVER THE INPUT: true; the input reads as it did. -/
def sumAddsSpec : ChangeSpec := { name := "sumAdds", fn := fun _ => fun
  | [d1, d2, d3] => { results := [.lit (.bool true)], args := [d1, d2, d3] }
  | _ => none }
def sumAddsRow : OpenClaim := { program := "ytcnodelfblpdiaa", sum := "4b40e94daa097c784ca65a4e168e23ad22b627e12c8526a8b5d043418e86d9ec", func := "towrope/towropelaw02.SumAdds", spec := "sumAdds", unfollowed := true, recurses := true, apart := false }
def SumAddsSaid : Prop := sumAddsRow.holds Try.pinned (OpenSpec.ofChange sumAddsSpec)

/-- ITS FALSE NEIGHBOUR: 'it returns false'. Refute it at one input. -/
def sumAddsWrong : ChangeSpec := { name := "sumAdds", fn := fun _ => fun
  | [d1, d2, d3] => { results := [.lit (.bool false)], args := [d1, d2, d3] }
  | _ => none }
def SumAddsWrongFalsely : Prop := sumAddsRow.holds Try.pinned (OpenSpec.ofChange sumAddsWrong)

/-- 'towropelaw01.OctetPads': WHATEVER THE INPUT: true; the input reads as it did. -/
def octetPadsSpec : ChangeSpec := { name := "octetPads", fn := fun _ => fun
  | [d1, d2, d3] => { results := [.lit (.bool true)], args := [d1, d2, d3] }
  | _ => none }
def octetPadsRow : OpenClaim := { program := "ytcnodelfblpdiaa", sum := "4b40e94daa097c784ca65a4e168e23ad22b627e12c8526a8b5d043418e86d9ec", func := "towrope/towropelaw01.OctetPads", spec := "octetPads", apart := false }
def OctetPadsSaid : Prop := octetPadsRow.holds Try.pinned (OpenSpec.ofChange octetPadsSpec)

/-- ITS FALSE NEIGHBOUR: 'it returns false'. Refute it at one input. -/
def octetPadsWrong : ChangeSpec := { name := "octetPads", fn := fun _ => fun
  | [d1, d2, d3] => { results := [.lit (.bool false)], args := [d1, d2, d3] }
  | _ => none }
def OctetPadsWrongFalsely : Prop := octetPadsRow.holds Try.pinned (OpenSpec.ofChange octetPadsWrong)

/-- 'towropelaw02.SumTurns': WHATEVER THE INPUT: true; the input reads as it did. -/
def sumTurnsSpec : ChangeSpec := { name := "sumTurns", fn := fun _ => fun
  | [d1, d2, d3] => { results := [.lit (.bool true)], args := [d1, d2, d3] }
  | _ => none }
def sumTurnsRow : OpenClaim := { program := "ytcnodelfblpdiaa", sum := "4b40e94daa097c784ca65a4e168e23ad22b627e12c8526a8b5d043418e86d9ec", func := "towrope/towropelaw02.SumTurns", spec := "sumTurns", unfollowed := true, recurses := true, apart := false }
def SumTurnsSaid : Prop := sumTurnsRow.holds Try.pinned (OpenSpec.ofChange sumTurnsSpec)

/-- ITS FALSE NEIGHBOUR: 'it returns false'. Refute it at one input. -/
def sumTurnsWrong : ChangeSpec := { name := "sumTurns", fn := fun _ => fun
  | [d1, d2, d3] => { results := [.lit (.bool false)], args := [d1, d2, d3] }
  | _ => none }
def SumTurnsWrongFalsely : Prop := sumTurnsRow.holds Try.pinned (OpenSpec.ofChange sumTurnsWrong)

/-- 'towropelaw02.SumHeads': WHATEVER THE INPUT: true; the input reads as it did. -/
def sumHeadsSpec : ChangeSpec := { name := "sumHeads", fn := fun _ => fun
  | [d1, d2, d3, d4, d5] => { results := [.lit (.bool true)], args := [d1, d2, d3, d4, d5] }
  | _ => none }
def sumHeadsRow : OpenClaim := { program := "ytcnodelfblpdiaa", sum := "4b40e94daa097c784ca65a4e168e23ad22b627e12c8526a8b5d043418e86d9ec", func := "towrope/towropelaw02.SumHeads", spec := "sumHeads", unfollowed := true, recurses := true, apart := false }
def SumHeadsSaid : Prop := sumHeadsRow.holds Try.pinned (OpenSpec.ofChange sumHeadsSpec)

/-- ITS FALSE NEIGHBOUR: 'it returns false'. Refute it at one input. -/
def sumHeadsWrong : ChangeSpec := { name := "sumHeads", fn := fun _ => fun
  | [d1, d2, d3, d4, d5] => { results := [.lit (.bool false)], args := [d1, d2, d3, d4, d5] }
  | _ => none }
def SumHeadsWrongFalsely : Prop := sumHeadsRow.holds Try.pinned (OpenSpec.ofChange sumHeadsWrong)

/-- 'towropelaw01.OctetOwn': WHATEVER THE INPUT: true; the input reads as it did. -/
def octetOwnSpec : ChangeSpec := { name := "octetOwn", fn := fun _ => fun
  | [d1, d2] => { results := [.lit (.bool true)], args := [d1, d2] }
  | _ => none }
def octetOwnRow : OpenClaim := { program := "ytcnodelfblpdiaa", sum := "4b40e94daa097c784ca65a4e168e23ad22b627e12c8526a8b5d043418e86d9ec", func := "towrope/towropelaw01.OctetOwn", spec := "octetOwn", apart := false }
def OctetOwnSaid : Prop := octetOwnRow.holds Try.pinned (OpenSpec.ofChange octetOwnSpec)

/-- ITS FALSE NEIGHBOUR: 'it returns false'. Refute it at one input. -/
def octetOwnWrong : ChangeSpec := { name := "octetOwn", fn := fun _ => fun
  | [d1, d2] => { results := [.lit (.bool false)], args := [d1, d2] }
  | _ => none }
def OctetOwnWrongFalsely : Prop := octetOwnRow.holds Try.pinned (OpenSpec.ofChange octetOwnWrong)

/-- 'towropelaw01.OctetBack': WHATEVER THE INPUT: true; the input reads as it did. -/
def octetBackSpec : ChangeSpec := { name := "octetBack", fn := fun _ => fun
  | [d1, d2, d3, d4] => { results := [.lit (.bool true)], args := [d1, d2, d3, d4] }
  | _ => none }
def octetBackRow : OpenClaim := { program := "ytcnodelfblpdiaa", sum := "4b40e94daa097c784ca65a4e168e23ad22b627e12c8526a8b5d043418e86d9ec", func := "towrope/towropelaw01.OctetBack", spec := "octetBack", apart := false }
def OctetBackSaid : Prop := octetBackRow.holds Try.pinned (OpenSpec.ofChange octetBackSpec)

/-- ITS FALSE NEIGHBOUR: 'it returns false'. Refute it at one input. -/
def octetBackWrong : ChangeSpec := { name := "octetBack", fn := fun _ => fun
  | [d1, d2, d3, d4] => { results := [.lit (.bool false)], args := [d1, d2, d3, d4] }
  | _ => none }
def OctetBackWrongFalsely : Prop := octetBackRow.holds Try.pinned (OpenSpec.ofChange octetBackWrong)

/- THE SECOND FORM. 'bulk': how many values and letters a reading holds, each counted each time it is reached (what is shared counts as often as it is met; a slice's spare places count too). A statement '..UptoSaid' is the law's where the arguments, and the package variables that the reading takes, are together of bulk at most 1048576: NARROWER than '..Said'. Prove '..Said' where nothing that the law and all that it calls make is longer than what came in: it says more and counts as full. Else prove '..UptoSaid'. A law counts once. -/
mutual
def uptoBulk {H : Type} : DataW H → Nat
  | .lit (.string bytes) => bytes.length + 1
  | .lit _ => 1
  | .nil => 1
  | .ptr d => uptoBulk d + 1
  | .slice elems spare => uptoBulkAll elems + uptoBulkAll spare + 1
  | .agg parts => uptoBulkAll parts + 1
  | .iface _ d => uptoBulk d + 1
  | .map entries => uptoBulkEntries entries + 1
  | .held _ => 1
def uptoBulkAll {H : Type} : List (DataW H) → Nat
  | [] => 0
  | d :: r => uptoBulk d + uptoBulkAll r
def uptoBulkEntries {H : Type} : List (Lit × DataW H) → Nat
  | [] => 0
  | x :: r => uptoBulkEntry x + uptoBulkEntries r
def uptoBulkEntry {H : Type} : Lit × DataW H → Nat
  | (.string bytes, d) => bytes.length + uptoBulk d + 1
  | (_, d) => uptoBulk d + 1
 end
def uptoSmall : (H : Type) → List (DataW H) → Bool := fun _ ds => decide (uptoBulkAll ds ≤ 1048576)
def OpenSpec.upto (s : _root_.Go.ChangeSpec) : _root_.Go.OpenSpec := { _root_.Go.OpenSpec.ofChange s with cond := some uptoSmall }

/-- 'towropelaw03.SeqTrims', WHERE WHAT IT READS IS OF BULK AT MOST 1048576: true; the input reads as it did. -/
def seqTrimsUptoRow : OpenClaim := { program := "ytcnodelfblpdiaa", sum := "4b40e94daa097c784ca65a4e168e23ad22b627e12c8526a8b5d043418e86d9ec", func := "towrope/towropelaw03.SeqTrims", spec := "seqTrims", apart := false, narrowed := true }
def SeqTrimsUptoSaid : Prop := seqTrimsUptoRow.holds Try.pinned (OpenSpec.upto seqTrimsSpec)

/-- 'towropelaw01.OctetPuts', WHERE WHAT IT READS IS OF BULK AT MOST 1048576: true; the input reads as it did. -/
def octetPutsUptoRow : OpenClaim := { program := "ytcnodelfblpdiaa", sum := "4b40e94daa097c784ca65a4e168e23ad22b627e12c8526a8b5d043418e86d9ec", func := "towrope/towropelaw01.OctetPuts", spec := "octetPuts", apart := false, narrowed := true }
def OctetPutsUptoSaid : Prop := octetPutsUptoRow.holds Try.pinned (OpenSpec.upto octetPutsSpec)

/-- 'towropelaw03.SeqPairs', WHERE WHAT IT READS IS OF BULK AT MOST 1048576: true; the input reads as it did. -/
def seqPairsUptoRow : OpenClaim := { program := "ytcnodelfblpdiaa", sum := "4b40e94daa097c784ca65a4e168e23ad22b627e12c8526a8b5d043418e86d9ec", func := "towrope/towropelaw03.SeqPairs", spec := "seqPairs", apart := false, narrowed := true }
def SeqPairsUptoSaid : Prop := seqPairsUptoRow.holds Try.pinned (OpenSpec.upto seqPairsSpec)

/-- 'towropelaw03.SeqHalves', WHERE WHAT IT READS IS OF BULK AT MOST 1048576: true; the input reads as it did. -/
def seqHalvesUptoRow : OpenClaim := { program := "ytcnodelfblpdiaa", sum := "4b40e94daa097c784ca65a4e168e23ad22b627e12c8526a8b5d043418e86d9ec", func := "towrope/towropelaw03.SeqHalves", spec := "seqHalves", apart := false, narrowed := true }
def SeqHalvesUptoSaid : Prop := seqHalvesUptoRow.holds Try.pinned (OpenSpec.upto seqHalvesSpec)

/-- 'towropelaw01.OctetCuts', WHERE WHAT IT READS IS OF BULK AT MOST 1048576: true; the input reads as it did. -/
def octetCutsUptoRow : OpenClaim := { program := "ytcnodelfblpdiaa", sum := "4b40e94daa097c784ca65a4e168e23ad22b627e12c8526a8b5d043418e86d9ec", func := "towrope/towropelaw01.OctetCuts", spec := "octetCuts", apart := false, narrowed := true }
def OctetCutsUptoSaid : Prop := octetCutsUptoRow.holds Try.pinned (OpenSpec.upto octetCutsSpec)

/-- 'towropelaw03.SeqAccepts', WHERE WHAT IT READS IS OF BULK AT MOST 1048576: true; the input reads as it did. -/
def seqAcceptsUptoRow : OpenClaim := { program := "ytcnodelfblpdiaa", sum := "4b40e94daa097c784ca65a4e168e23ad22b627e12c8526a8b5d043418e86d9ec", func := "towrope/towropelaw03.SeqAccepts", spec := "seqAccepts", unfollowed := true, recurses := true, apart := false, narrowed := true }
def SeqAcceptsUptoSaid : Prop := seqAcceptsUptoRow.holds Try.pinned (OpenSpec.upto seqAcceptsSpec)

/-- 'towropelaw03.SeqLaws', WHERE WHAT IT READS IS OF BULK AT MOST 1048576: true; the input reads as it did. -/
def seqLawsUptoRow : OpenClaim := { program := "ytcnodelfblpdiaa", sum := "4b40e94daa097c784ca65a4e168e23ad22b627e12c8526a8b5d043418e86d9ec", func := "towrope/towropelaw03.SeqLaws", spec := "seqLaws", unfollowed := true, recurses := true, apart := false, narrowed := true }
def SeqLawsUptoSaid : Prop := seqLawsUptoRow.holds Try.pinned (OpenSpec.upto seqLawsSpec)

/-- 'towropelaw02.SumTells', WHERE WHAT IT READS IS OF BULK AT MOST 1048576: true; the input reads as it did. -/
def sumTellsUptoRow : OpenClaim := { program := "ytcnodelfblpdiaa", sum := "4b40e94daa097c784ca65a4e168e23ad22b627e12c8526a8b5d043418e86d9ec", func := "towrope/towropelaw02.SumTells", spec := "sumTells", unfollowed := true, recurses := true, apart := false, narrowed := true }
def SumTellsUptoSaid : Prop := sumTellsUptoRow.holds Try.pinned (OpenSpec.upto sumTellsSpec)

/-- 'towropelaw02.SumRight', WHERE WHAT IT READS IS OF BULK AT MOST 1048576: true; the input reads as it did. -/
def sumRightUptoRow : OpenClaim := { program := "ytcnodelfblpdiaa", sum := "4b40e94daa097c784ca65a4e168e23ad22b627e12c8526a8b5d043418e86d9ec", func := "towrope/towropelaw02.SumRight", spec := "sumRight", unfollowed := true, recurses := true, apart := false, narrowed := true }
def SumRightUptoSaid : Prop := sumRightUptoRow.holds Try.pinned (OpenSpec.upto sumRightSpec)

/-- 'towropelaw01.OctetGets', WHERE WHAT IT READS IS OF BULK AT MOST 1048576: true; the input reads as it did. -/
def octetGetsUptoRow : OpenClaim := { program := "ytcnodelfblpdiaa", sum := "4b40e94daa097c784ca65a4e168e23ad22b627e12c8526a8b5d043418e86d9ec", func := "towrope/towropelaw01.OctetGets", spec := "octetGets", apart := false, narrowed := true }
def OctetGetsUptoSaid : Prop := octetGetsUptoRow.holds Try.pinned (OpenSpec.upto octetGetsSpec)

/-- 'towropelaw02.SumAdds', WHERE WHAT IT READS IS OF BULK AT MOST 1048576: true; the input reads as it did. -/
def sumAddsUptoRow : OpenClaim := { program := "ytcnodelfblpdiaa", sum := "4b40e94daa097c784ca65a4e168e23ad22b627e12c8526a8b5d043418e86d9ec", func := "towrope/towropelaw02.SumAdds", spec := "sumAdds", unfollowed := true, recurses := true, apart := false, narrowed := true }
def SumAddsUptoSaid : Prop := sumAddsUptoRow.holds Try.pinned (OpenSpec.upto sumAddsSpec)

/-- 'towropelaw01.OctetPads', WHERE WHAT IT READS IS OF BULK AT MOST 1048576: true; the input reads as it did. -/
def octetPadsUptoRow : OpenClaim := { program := "ytcnodelfblpdiaa", sum := "4b40e94daa097c784ca65a4e168e23ad22b627e12c8526a8b5d043418e86d9ec", func := "towrope/towropelaw01.OctetPads", spec := "octetPads", apart := false, narrowed := true }
def OctetPadsUptoSaid : Prop := octetPadsUptoRow.holds Try.pinned (OpenSpec.upto octetPadsSpec)

/-- 'towropelaw02.SumTurns', WHERE WHAT IT READS IS OF BULK AT MOST 1048576: true; the input reads as it did. -/
def sumTurnsUptoRow : OpenClaim := { program := "ytcnodelfblpdiaa", sum := "4b40e94daa097c784ca65a4e168e23ad22b627e12c8526a8b5d043418e86d9ec", func := "towrope/towropelaw02.SumTurns", spec := "sumTurns", unfollowed := true, recurses := true, apart := false, narrowed := true }
def SumTurnsUptoSaid : Prop := sumTurnsUptoRow.holds Try.pinned (OpenSpec.upto sumTurnsSpec)

/-- 'towropelaw02.SumHeads', WHERE WHAT IT READS IS OF BULK AT MOST 1048576: true; the input reads as it did. -/
def sumHeadsUptoRow : OpenClaim := { program := "ytcnodelfblpdiaa", sum := "4b40e94daa097c784ca65a4e168e23ad22b627e12c8526a8b5d043418e86d9ec", func := "towrope/towropelaw02.SumHeads", spec := "sumHeads", unfollowed := true, recurses := true, apart := false, narrowed := true }
def SumHeadsUptoSaid : Prop := sumHeadsUptoRow.holds Try.pinned (OpenSpec.upto sumHeadsSpec)

/-- 'towropelaw01.OctetOwn', WHERE WHAT IT READS IS OF BULK AT MOST 1048576: true; the input reads as it did. -/
def octetOwnUptoRow : OpenClaim := { program := "ytcnodelfblpdiaa", sum := "4b40e94daa097c784ca65a4e168e23ad22b627e12c8526a8b5d043418e86d9ec", func := "towrope/towropelaw01.OctetOwn", spec := "octetOwn", apart := false, narrowed := true }
def OctetOwnUptoSaid : Prop := octetOwnUptoRow.holds Try.pinned (OpenSpec.upto octetOwnSpec)

/-- 'towropelaw01.OctetBack', WHERE WHAT IT READS IS OF BULK AT MOST 1048576: true; the input reads as it did. -/
def octetBackUptoRow : OpenClaim := { program := "ytcnodelfblpdiaa", sum := "4b40e94daa097c784ca65a4e168e23ad22b627e12c8526a8b5d043418e86d9ec", func := "towrope/towropelaw01.OctetBack", spec := "octetBack", apart := false, narrowed := true }
def OctetBackUptoSaid : Prop := octetBackUptoRow.holds Try.pinned (OpenSpec.upto octetBackSpec)

end Rows
end Go.Proofs.Ytcnodelfblpdiaa
