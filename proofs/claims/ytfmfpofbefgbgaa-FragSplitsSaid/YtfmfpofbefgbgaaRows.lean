/-
  No cell of these rows narrows 'for every input' (looked for: loops, veiled, ifaces, maps, wideKeys, modest, calm, conditions, laid).
  DERIVED. THE GIVEN ROWS OF THIS SEAT. 12 by the template 'for every input the law returns true; each argument reads behind the call as it read before'; 0 by the template 'total and deterministic' (their statements: YtfmfpofbefgbgaaTotals.lean).
  GIVEN WITH THE SEED: the statements are not yours to turn. If you find one false, say at which input.
  Laid BY PROGRAM, IN A SANDBOX (cutbox-rows.mjs): the forced cells as the released guide's own fill.sh prints them over the translation 973837c79d2d9896… (all of the seat's roots in one cut). By AI agents, Wed Nov 11 2026. No macro, syntax, notation, axiom, sorry.
-/
import Derived.Test.YtfmfpofbefgbgaaChecked
import GoSem.Claim
import GoSem.ClaimJoined
import GoSem.ClaimMapViews
import Derived.JoinedTies
import Derived.KernelRfl
namespace Go.Proofs.Ytfmfpofbefgbgaa
/- THE CELL 'sum', in the pinned program and in every row, IS THE sha256 OF THE DUMP (.gsa) THAT YtfmfpofbefgbgaaProg.lean LOADS. Nothing in Lean hashes anything: it is a label: what it is worth is what the hold of that sum in a sandbox is worth. -/
noncomputable def Try.pinned : Pinned := { name := "ytfmfpofbefgbgaa", sum := "973837c79d2d9896add82b1748a2240c0d8e67b71dfe0256312b3cae035c1c06", checked := Try.checked }
namespace Rows
def none {H : Type} : Left H := { results := [], args := [] }

/-- 'towropelaw15.HoseOrder': WHATEVER THE INPUT: true; the input reads as it did. -/
def hoseOrderSpec : ChangeSpec := { name := "hoseOrder", fn := fun _ => fun
  | [d1, d2, d3] => { results := [.lit (.bool true)], args := [d1, d2, d3] }
  | _ => none }
def hoseOrderRow : OpenClaim := { program := "ytfmfpofbefgbgaa", sum := "973837c79d2d9896add82b1748a2240c0d8e67b71dfe0256312b3cae035c1c06", func := "towrope/towropelaw15.HoseOrder", spec := "hoseOrder", apart := false }
def HoseOrderSaid : Prop := hoseOrderRow.holds Try.pinned (OpenSpec.ofChange hoseOrderSpec)

/-- ITS FALSE NEIGHBOUR: 'it returns false'. Refute it at one input. -/
def hoseOrderWrong : ChangeSpec := { name := "hoseOrder", fn := fun _ => fun
  | [d1, d2, d3] => { results := [.lit (.bool false)], args := [d1, d2, d3] }
  | _ => none }
def HoseOrderWrongFalsely : Prop := hoseOrderRow.holds Try.pinned (OpenSpec.ofChange hoseOrderWrong)

/-- 'towropelaw15.HosePlays': WHATEVER THE INPUT: true; the input reads as it did. -/
def hosePlaysSpec : ChangeSpec := { name := "hosePlays", fn := fun _ => fun
  | [d1, d2] => { results := [.lit (.bool true)], args := [d1, d2] }
  | _ => none }
def hosePlaysRow : OpenClaim := { program := "ytfmfpofbefgbgaa", sum := "973837c79d2d9896add82b1748a2240c0d8e67b71dfe0256312b3cae035c1c06", func := "towrope/towropelaw15.HosePlays", spec := "hosePlays", apart := false }
def HosePlaysSaid : Prop := hosePlaysRow.holds Try.pinned (OpenSpec.ofChange hosePlaysSpec)

/-- ITS FALSE NEIGHBOUR: 'it returns false'. Refute it at one input. -/
def hosePlaysWrong : ChangeSpec := { name := "hosePlays", fn := fun _ => fun
  | [d1, d2] => { results := [.lit (.bool false)], args := [d1, d2] }
  | _ => none }
def HosePlaysWrongFalsely : Prop := hosePlaysRow.holds Try.pinned (OpenSpec.ofChange hosePlaysWrong)

/-- 'towropelaw15.HoseNils': WHATEVER THE INPUT: true; the input reads as it did. -/
def hoseNilsSpec : ChangeSpec := { name := "hoseNils", fn := fun _ => fun
  | [d] => { results := [.lit (.bool true)], args := [d] }
  | _ => none }
def hoseNilsRow : OpenClaim := { program := "ytfmfpofbefgbgaa", sum := "973837c79d2d9896add82b1748a2240c0d8e67b71dfe0256312b3cae035c1c06", func := "towrope/towropelaw15.HoseNils", spec := "hoseNils", apart := false }
def HoseNilsSaid : Prop := hoseNilsRow.holds Try.pinned (OpenSpec.ofChange hoseNilsSpec)

/-- ITS FALSE NEIGHBOUR: 'it returns false'. Refute it at one input. -/
def hoseNilsWrong : ChangeSpec := { name := "hoseNils", fn := fun _ => fun
  | [d] => { results := [.lit (.bool false)], args := [d] }
  | _ => none }
def HoseNilsWrongFalsely : Prop := hoseNilsRow.holds Try.pinned (OpenSpec.ofChange hoseNilsWrong)

/-- 'towropelaw17.PoolOnce': WHATEVER THE INPUT: true; the input reads as it did. -/
def poolOnceSpec : ChangeSpec := { name := "poolOnce", fn := fun _ => fun
  | [d] => { results := [.lit (.bool true)], args := [d] }
  | _ => none }
def poolOnceRow : OpenClaim := { program := "ytfmfpofbefgbgaa", sum := "973837c79d2d9896add82b1748a2240c0d8e67b71dfe0256312b3cae035c1c06", func := "towrope/towropelaw17.PoolOnce", spec := "poolOnce", apart := false }
def PoolOnceSaid : Prop := poolOnceRow.holds Try.pinned (OpenSpec.ofChange poolOnceSpec)

/-- ITS FALSE NEIGHBOUR: 'it returns false'. Refute it at one input. -/
def poolOnceWrong : ChangeSpec := { name := "poolOnce", fn := fun _ => fun
  | [d] => { results := [.lit (.bool false)], args := [d] }
  | _ => none }
def PoolOnceWrongFalsely : Prop := poolOnceRow.holds Try.pinned (OpenSpec.ofChange poolOnceWrong)

/-- 'towropelaw11.FragCarries': WHATEVER THE INPUT: true; the input reads as it did. -/
def fragCarriesSpec : ChangeSpec := { name := "fragCarries", fn := fun _ => fun
  | [d] => { results := [.lit (.bool true)], args := [d] }
  | _ => none }
def fragCarriesRow : OpenClaim := { program := "ytfmfpofbefgbgaa", sum := "973837c79d2d9896add82b1748a2240c0d8e67b71dfe0256312b3cae035c1c06", func := "towrope/towropelaw11.FragCarries", spec := "fragCarries", apart := false }
def FragCarriesSaid : Prop := fragCarriesRow.holds Try.pinned (OpenSpec.ofChange fragCarriesSpec)

/-- ITS FALSE NEIGHBOUR: 'it returns false'. Refute it at one input. -/
def fragCarriesWrong : ChangeSpec := { name := "fragCarries", fn := fun _ => fun
  | [d] => { results := [.lit (.bool false)], args := [d] }
  | _ => none }
def FragCarriesWrongFalsely : Prop := fragCarriesRow.holds Try.pinned (OpenSpec.ofChange fragCarriesWrong)

/-- 'towropelaw11.FragHolds': WHATEVER THE INPUT: true; the input reads as it did. -/
def fragHoldsSpec : ChangeSpec := { name := "fragHolds", fn := fun _ => fun
  | [d1, d2] => { results := [.lit (.bool true)], args := [d1, d2] }
  | _ => none }
def fragHoldsRow : OpenClaim := { program := "ytfmfpofbefgbgaa", sum := "973837c79d2d9896add82b1748a2240c0d8e67b71dfe0256312b3cae035c1c06", func := "towrope/towropelaw11.FragHolds", spec := "fragHolds", apart := false }
def FragHoldsSaid : Prop := fragHoldsRow.holds Try.pinned (OpenSpec.ofChange fragHoldsSpec)

/-- ITS FALSE NEIGHBOUR: 'it returns false'. Refute it at one input. -/
def fragHoldsWrong : ChangeSpec := { name := "fragHolds", fn := fun _ => fun
  | [d1, d2] => { results := [.lit (.bool false)], args := [d1, d2] }
  | _ => none }
def FragHoldsWrongFalsely : Prop := fragHoldsRow.holds Try.pinned (OpenSpec.ofChange fragHoldsWrong)

/-- 'towropelaw11.FragSplits': WHATEVER THE INPUT: true; the input reads as it did. -/
def fragSplitsSpec : ChangeSpec := { name := "fragSplits", fn := fun _ => fun
  | [d1, d2] => { results := [.lit (.bool true)], args := [d1, d2] }
  | _ => none }
def fragSplitsRow : OpenClaim := { program := "ytfmfpofbefgbgaa", sum := "973837c79d2d9896add82b1748a2240c0d8e67b71dfe0256312b3cae035c1c06", func := "towrope/towropelaw11.FragSplits", spec := "fragSplits", apart := false }
def FragSplitsSaid : Prop := fragSplitsRow.holds Try.pinned (OpenSpec.ofChange fragSplitsSpec)

/-- ITS FALSE NEIGHBOUR: 'it returns false'. Refute it at one input. -/
def fragSplitsWrong : ChangeSpec := { name := "fragSplits", fn := fun _ => fun
  | [d1, d2] => { results := [.lit (.bool false)], args := [d1, d2] }
  | _ => none }
def FragSplitsWrongFalsely : Prop := fragSplitsRow.holds Try.pinned (OpenSpec.ofChange fragSplitsWrong)

/-- 'towropelaw08.GramGets': WHATEVER THE INPUT: true; the input reads as it did. -/
def gramGetsSpec : ChangeSpec := { name := "gramGets", fn := fun _ => fun
  | [d1, d2, d3] => { results := [.lit (.bool true)], args := [d1, d2, d3] }
  | _ => none }
def gramGetsRow : OpenClaim := { program := "ytfmfpofbefgbgaa", sum := "973837c79d2d9896add82b1748a2240c0d8e67b71dfe0256312b3cae035c1c06", func := "towrope/towropelaw08.GramGets", spec := "gramGets", unfollowed := true, recurses := true, apart := false }
def GramGetsSaid : Prop := gramGetsRow.holds Try.pinned (OpenSpec.ofChange gramGetsSpec)

/-- ITS FALSE NEIGHBOUR: 'it returns false'. Refute it at one input. -/
def gramGetsWrong : ChangeSpec := { name := "gramGets", fn := fun _ => fun
  | [d1, d2, d3] => { results := [.lit (.bool false)], args := [d1, d2, d3] }
  | _ => none }
def GramGetsWrongFalsely : Prop := gramGetsRow.holds Try.pinned (OpenSpec.ofChange gramGetsWrong)

/-- 'towropelaw17.PoolPlays': WHATEVER THE INPUT: true; the input reads as it did. -/
def poolPlaysSpec : ChangeSpec := { name := "poolPlays", fn := fun _ => fun
  | [d] => { results := [.lit (.bool true)], args := [d] }
  | _ => none }
def poolPlaysRow : OpenClaim := { program := "ytfmfpofbefgbgaa", sum := "973837c79d2d9896add82b1748a2240c0d8e67b71dfe0256312b3cae035c1c06", func := "towrope/towropelaw17.PoolPlays", spec := "poolPlays", apart := false }
def PoolPlaysSaid : Prop := poolPlaysRow.holds Try.pinned (OpenSpec.ofChange poolPlaysSpec)

/-- ITS FALSE NEIGHBOUR: 'it returns false'. Refute it at one input. -/
def poolPlaysWrong : ChangeSpec := { name := "poolPlays", fn := fun _ => fun
  | [d] => { results := [.lit (.bool false)], args := [d] }
  | _ => none }
def PoolPlaysWrongFalsely : Prop := poolPlaysRow.holds Try.pinned (OpenSpec.ofChange poolPlaysWrong)

/-- 'towropelaw17.PoolNils': WHATEVER THE INPUT: true; the input reads as it did. -/
def poolNilsSpec : ChangeSpec := { name := "poolNils", fn := fun _ => fun
  | [d] => { results := [.lit (.bool true)], args := [d] }
  | _ => none }
def poolNilsRow : OpenClaim := { program := "ytfmfpofbefgbgaa", sum := "973837c79d2d9896add82b1748a2240c0d8e67b71dfe0256312b3cae035c1c06", func := "towrope/towropelaw17.PoolNils", spec := "poolNils", apart := false }
def PoolNilsSaid : Prop := poolNilsRow.holds Try.pinned (OpenSpec.ofChange poolNilsSpec)

/-- ITS FALSE NEIGHBOUR: 'it returns false'. Refute it at one input. -/
def poolNilsWrong : ChangeSpec := { name := "poolNils", fn := fun _ => fun
  | [d] => { results := [.lit (.bool false)], args := [d] }
  | _ => none }
def PoolNilsWrongFalsely : Prop := poolNilsRow.holds Try.pinned (OpenSpec.ofChange poolNilsWrong)

/-- 'towropelaw08.GramTurned': WHATEVER THE INPUT: true; the input reads as it did. -/
def gramTurnedSpec : ChangeSpec := { name := "gramTurned", fn := fun _ => fun
  | [d1, d2, d3, d4, d5] => { results := [.lit (.bool true)], args := [d1, d2, d3, d4, d5] }
  | _ => none }
def gramTurnedRow : OpenClaim := { program := "ytfmfpofbefgbgaa", sum := "973837c79d2d9896add82b1748a2240c0d8e67b71dfe0256312b3cae035c1c06", func := "towrope/towropelaw08.GramTurned", spec := "gramTurned", unfollowed := true, recurses := true, apart := false }
def GramTurnedSaid : Prop := gramTurnedRow.holds Try.pinned (OpenSpec.ofChange gramTurnedSpec)

/-- ITS FALSE NEIGHBOUR: 'it returns false'. Refute it at one input. -/
def gramTurnedWrong : ChangeSpec := { name := "gramTurned", fn := fun _ => fun
  | [d1, d2, d3, d4, d5] => { results := [.lit (.bool false)], args := [d1, d2, d3, d4, d5] }
  | _ => none }
def GramTurnedWrongFalsely : Prop := gramTurnedRow.holds Try.pinned (OpenSpec.ofChange gramTurnedWrong)

/-- 'towropelaw08.GramPuts': WHATEVER THE INPUT: true; the input reads as it did. -/
def gramPutsSpec : ChangeSpec := { name := "gramPuts", fn := fun _ => fun
  | [d1, d2, d3, d4] => { results := [.lit (.bool true)], args := [d1, d2, d3, d4] }
  | _ => none }
def gramPutsRow : OpenClaim := { program := "ytfmfpofbefgbgaa", sum := "973837c79d2d9896add82b1748a2240c0d8e67b71dfe0256312b3cae035c1c06", func := "towrope/towropelaw08.GramPuts", spec := "gramPuts", unfollowed := true, recurses := true, apart := false }
def GramPutsSaid : Prop := gramPutsRow.holds Try.pinned (OpenSpec.ofChange gramPutsSpec)

/-- ITS FALSE NEIGHBOUR: 'it returns false'. Refute it at one input. -/
def gramPutsWrong : ChangeSpec := { name := "gramPuts", fn := fun _ => fun
  | [d1, d2, d3, d4] => { results := [.lit (.bool false)], args := [d1, d2, d3, d4] }
  | _ => none }
def GramPutsWrongFalsely : Prop := gramPutsRow.holds Try.pinned (OpenSpec.ofChange gramPutsWrong)

/- THE SECOND FORM. 'bulk': how many values and letters a reading holds, each counted each time it is reached (what is shared counts as often as it is met; a slice's spare places count too). A statement '..UptoSaid' is the law's where the arguments, and the package variables that the reading takes, are together of bulk at most 1048576: NARROWER than '..Said'. Prove '..Said' where nothing that the law and all that it calls make is longer than what came in: it says more and counts as full. Else prove '..UptoSaid'. A law counts once. -/
mutual
def uptoBulk {H : Type} : DataW H → Nat
  | .lit (.string bytes) => bytes.length + 1
  | .lit _ => 1
  | .nil => 1
  | .ptr d => uptoBulk d + 1
  | .slice elems spare => uptoBulkAll elems + uptoBulkAll spare + 1
  | .agg parts => uptoBulkAll parts + 1
  | .iface _ d => uptoBulk d + 1
  | .map entries => uptoBulkEntries entries + 1
  | .held _ => 1
def uptoBulkAll {H : Type} : List (DataW H) → Nat
  | [] => 0
  | d :: r => uptoBulk d + uptoBulkAll r
def uptoBulkEntries {H : Type} : List (Lit × DataW H) → Nat
  | [] => 0
  | x :: r => uptoBulkEntry x + uptoBulkEntries r
def uptoBulkEntry {H : Type} : Lit × DataW H → Nat
  | (.string bytes, d) => bytes.length + uptoBulk d + 1
  | (_, d) => uptoBulk d + 1
 end
def uptoSmall : (H : Type) → List (DataW H) → Bool := fun _ ds => decide (uptoBulkAll ds ≤ 1048576)
def OpenSpec.upto (s : _root_.Go.ChangeSpec) : _root_.Go.OpenSpec := { _root_.Go.OpenSpec.ofChange s with cond := some uptoSmall }

/-- 'towropelaw15.HoseOrder', WHERE WHAT IT READS IS OF BULK AT MOST 1048576: true; the input reads as it did. -/
def hoseOrderUptoRow : OpenClaim := { program := "ytfmfpofbefgbgaa", sum := "973837c79d2d9896add82b1748a2240c0d8e67b71dfe0256312b3cae035c1c06", func := "towrope/towropelaw15.HoseOrder", spec := "hoseOrder", apart := false, narrowed := true }
def HoseOrderUptoSaid : Prop := hoseOrderUptoRow.holds Try.pinned (OpenSpec.upto hoseOrderSpec)

/-- 'towropelaw15.HosePlays', WHERE WHAT IT READS IS OF BULK AT MOST 1048576: true; the input reads as it did. -/
def hosePlaysUptoRow : OpenClaim := { program := "ytfmfpofbefgbgaa", sum := "973837c79d2d9896add82b1748a2240c0d8e67b71dfe0256312b3cae035c1c06", func := "towrope/towropelaw15.HosePlays", spec := "hosePlays", apart := false, narrowed := true }
def HosePlaysUptoSaid : Prop := hosePlaysUptoRow.holds Try.pinned (OpenSpec.upto hosePlaysSpec)

/-- 'towropelaw15.HoseNils', WHERE WHAT IT READS IS OF BULK AT MOST 1048576: true; the input reads as it did. -/
def hoseNilsUptoRow : OpenClaim := { program := "ytfmfpofbefgbgaa", sum := "973837c79d2d9896add82b1748a2240c0d8e67b71dfe0256312b3cae035c1c06", func := "towrope/towropelaw15.HoseNils", spec := "hoseNils", apart := false, narrowed := true }
def HoseNilsUptoSaid : Prop := hoseNilsUptoRow.holds Try.pinned (OpenSpec.upto hoseNilsSpec)

/-- 'towropelaw17.PoolOnce', WHERE WHAT IT READS IS OF BULK AT MOST 1048576: true; the input reads as it did. -/
def poolOnceUptoRow : OpenClaim := { program := "ytfmfpofbefgbgaa", sum := "973837c79d2d9896add82b1748a2240c0d8e67b71dfe0256312b3cae035c1c06", func := "towrope/towropelaw17.PoolOnce", spec := "poolOnce", apart := false, narrowed := true }
def PoolOnceUptoSaid : Prop := poolOnceUptoRow.holds Try.pinned (OpenSpec.upto poolOnceSpec)

/-- 'towropelaw11.FragCarries', WHERE WHAT IT READS IS OF BULK AT MOST 1048576: true; the input reads as it did. -/
def fragCarriesUptoRow : OpenClaim := { program := "ytfmfpofbefgbgaa", sum := "973837c79d2d9896add82b1748a2240c0d8e67b71dfe0256312b3cae035c1c06", func := "towrope/towropelaw11.FragCarries", spec := "fragCarries", apart := false, narrowed := true }
def FragCarriesUptoSaid : Prop := fragCarriesUptoRow.holds Try.pinned (OpenSpec.upto fragCarriesSpec)

/-- 'towropelaw11.FragHolds', WHERE WHAT IT READS IS OF BULK AT MOST 1048576: true; the input reads as it did. -/
def fragHoldsUptoRow : OpenClaim := { program := "ytfmfpofbefgbgaa", sum := "973837c79d2d9896add82b1748a2240c0d8e67b71dfe0256312b3cae035c1c06", func := "towrope/towropelaw11.FragHolds", spec := "fragHolds", apart := false, narrowed := true }
def FragHoldsUptoSaid : Prop := fragHoldsUptoRow.holds Try.pinned (OpenSpec.upto fragHoldsSpec)

/-- 'towropelaw11.FragSplits', WHERE WHAT IT READS IS OF BULK AT MOST 1048576: true; the input reads as it did. -/
def fragSplitsUptoRow : OpenClaim := { program := "ytfmfpofbefgbgaa", sum := "973837c79d2d9896add82b1748a2240c0d8e67b71dfe0256312b3cae035c1c06", func := "towrope/towropelaw11.FragSplits", spec := "fragSplits", apart := false, narrowed := true }
def FragSplitsUptoSaid : Prop := fragSplitsUptoRow.holds Try.pinned (OpenSpec.upto fragSplitsSpec)

/-- 'towropelaw08.GramGets', WHERE WHAT IT READS IS OF BULK AT MOST 1048576: true; the input reads as it did. -/
def gramGetsUptoRow : OpenClaim := { program := "ytfmfpofbefgbgaa", sum := "973837c79d2d9896add82b1748a2240c0d8e67b71dfe0256312b3cae035c1c06", func := "towrope/towropelaw08.GramGets", spec := "gramGets", unfollowed := true, recurses := true, apart := false, narrowed := true }
def GramGetsUptoSaid : Prop := gramGetsUptoRow.holds Try.pinned (OpenSpec.upto gramGetsSpec)

/-- 'towropelaw17.PoolPlays', WHERE WHAT IT READS IS OF BULK AT MOST 1048576: true; the input reads as it did. -/
def poolPlaysUptoRow : OpenClaim := { program := "ytfmfpofbefgbgaa", sum := "973837c79d2d9896add82b1748a2240c0d8e67b71dfe0256312b3cae035c1c06", func := "towrope/towropelaw17.PoolPlays", spec := "poolPlays", apart := false, narrowed := true }
def PoolPlaysUptoSaid : Prop := poolPlaysUptoRow.holds Try.pinned (OpenSpec.upto poolPlaysSpec)

/-- 'towropelaw17.PoolNils', WHERE WHAT IT READS IS OF BULK AT MOST 1048576: true; the input reads as it did. -/
def poolNilsUptoRow : OpenClaim := { program := "ytfmfpofbefgbgaa", sum := "973837c79d2d9896add82b1748a2240c0d8e67b71dfe0256312b3cae035c1c06", func := "towrope/towropelaw17.PoolNils", spec := "poolNils", apart := false, narrowed := true }
def PoolNilsUptoSaid : Prop := poolNilsUptoRow.holds Try.pinned (OpenSpec.upto poolNilsSpec)

/-- 'towropelaw08.GramTurned', WHERE WHAT IT READS IS OF BULK AT MOST 1048576: true; the input reads as it did. -/
def gramTurnedUptoRow : OpenClaim := { program := "ytfmfpofbefgbgaa", sum := "973837c79d2d9896add82b1748a2240c0d8e67b71dfe0256312b3cae035c1c06", func := "towrope/towropelaw08.GramTurned", spec := "gramTurned", unfollowed := true, recurses := true, apart := false, narrowed := true }
def GramTurnedUptoSaid : Prop := gramTurnedUptoRow.holds Try.pinned (OpenSpec.upto gramTurnedSpec)

/-- 'towropelaw08.GramPuts', WHERE WHAT IT READS IS OF BULK AT MOST 1048576: true; the input reads as it did. -/
def gramPutsUptoRow : OpenClaim := { program := "ytfmfpofbefgbgaa", sum := "973837c79d2d9896add82b1748a2240c0d8e67b71dfe0256312b3cae035c1c06", func := "towrope/towropelaw08.GramPuts", spec := "gramPuts", unfollowed := true, recurses := true, apart := false, narrowed := true }
def GramPutsUptoSaid : Prop := gramPutsUptoRow.holds Try.pinned (OpenSpec.upto gramPutsSpec)

end Rows
end Go.Proofs.Ytfmfpofbefgbgaa
