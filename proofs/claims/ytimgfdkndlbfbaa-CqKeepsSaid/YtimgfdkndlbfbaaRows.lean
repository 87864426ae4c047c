/-
  No cell of these rows narrows 'for every input' (looked for: loops, veiled, ifaces, maps, wideKeys, modest, calm, conditions, laid).
  DERIVED. THE GIVEN ROWS OF THIS SEAT. 9 by the template 'for every input the law returns true; each argument reads behind the call as it read before'; 0 by the template 'total and deterministic' (their statements: YtimgfdkndlbfbaaTotals.lean).
  GIVEN WITH THE SEED: the statements are not yours to turn. If you find one false, say at which input.
  Laid BY PROGRAM, IN A SANDBOX (cutbox-rows.mjs): the forced cells as the released guide's own fill.sh prints them over the translation 04c211ee8e224c7d… (all of the seat's roots in one cut). By AI agents, Wed Nov 11 2026. No macro, syntax, notation, axiom, sorry.
-/
import Derived.Test.YtimgfdkndlbfbaaChecked
import GoSem.Claim
import GoSem.ClaimJoined
import GoSem.ClaimMapViews
import Derived.JoinedTies
import Derived.KernelRfl
namespace Go.Proofs.Ytimgfdkndlbfbaa
/- THE CELL 'sum', in the pinned program and in every row, IS THE sha256 OF THE DUMP (.gsa) THAT YtimgfdkndlbfbaaProg.lean LOADS. Nothing in Lean hashes anything: it is a label: what it is worth is what the hold of that sum in a sandbox is worth. -/
noncomputable def Try.pinned : Pinned := { name := "ytimgfdkndlbfbaa", sum := "04c211ee8e224c7db8a433397ff17ed286da91803e0d2ba072452374612c5594", checked := Try.checked }
namespace Rows
def none {H : Type} : Left H := { results := [], args := [] }

/-- 'towropelaw27.CqKeeps': WHATEVER THE INPUT: true; the input reads as it did. -/
def cqKeepsSpec : ChangeSpec := { name := "cqKeeps", fn := fun _ => fun
  | [d1, d2, d3, d4] => { results := [.lit (.bool true)], args := [d1, d2, d3, d4] }
  | _ => none }
def cqKeepsRow : OpenClaim := { program := "ytimgfdkndlbfbaa", sum := "04c211ee8e224c7db8a433397ff17ed286da91803e0d2ba072452374612c5594", func := "towrope/towropelaw27.CqKeeps", spec := "cqKeeps", plainKeys := false, apart := false }
def CqKeepsSaid : Prop := cqKeepsRow.holds Try.pinned (OpenSpec.ofChange cqKeepsSpec)

/-- ITS FALSE NEIGHBOUR: 'it returns false'. Refute it at one input. -/
def cqKeepsWrong : ChangeSpec := { name := "cqKeeps", fn := fun _ => fun
  | [d1, d2, d3, d4] => { results := [.lit (.bool false)], args := [d1, d2, d3, d4] }
  | _ => none }
def CqKeepsWrongFalsely : Prop := cqKeepsRow.holds Try.pinned (OpenSpec.ofChange cqKeepsWrong)

/-- 'towropelaw27.CqPlays': WHATEVER THE INPUT: true; the input reads as it did. -/
def cqPlaysSpec : ChangeSpec := { name := "cqPlays", fn := fun _ => fun
  | [d1, d2, d3] => { results := [.lit (.bool true)], args := [d1, d2, d3] }
  | _ => none }
def cqPlaysRow : OpenClaim := { program := "ytimgfdkndlbfbaa", sum := "04c211ee8e224c7db8a433397ff17ed286da91803e0d2ba072452374612c5594", func := "towrope/towropelaw27.CqPlays", spec := "cqPlays", plainKeys := false, apart := false }
def CqPlaysSaid : Prop := cqPlaysRow.holds Try.pinned (OpenSpec.ofChange cqPlaysSpec)

/-- ITS FALSE NEIGHBOUR: 'it returns false'. Refute it at one input. -/
def cqPlaysWrong : ChangeSpec := { name := "cqPlays", fn := fun _ => fun
  | [d1, d2, d3] => { results := [.lit (.bool false)], args := [d1, d2, d3] }
  | _ => none }
def CqPlaysWrongFalsely : Prop := cqPlaysRow.holds Try.pinned (OpenSpec.ofChange cqPlaysWrong)

/-- 'towropelaw27.CqNils': WHATEVER THE INPUT: true; the input reads as it did. -/
def cqNilsSpec : ChangeSpec := { name := "cqNils", fn := fun _ => fun
  | [d] => { results := [.lit (.bool true)], args := [d] }
  | _ => none }
def cqNilsRow : OpenClaim := { program := "ytimgfdkndlbfbaa", sum := "04c211ee8e224c7db8a433397ff17ed286da91803e0d2ba072452374612c5594", func := "towrope/towropelaw27.CqNils", spec := "cqNils", plainKeys := false, apart := false }
def CqNilsSaid : Prop := cqNilsRow.holds Try.pinned (OpenSpec.ofChange cqNilsSpec)

/-- ITS FALSE NEIGHBOUR: 'it returns false'. Refute it at one input. -/
def cqNilsWrong : ChangeSpec := { name := "cqNils", fn := fun _ => fun
  | [d] => { results := [.lit (.bool false)], args := [d] }
  | _ => none }
def CqNilsWrongFalsely : Prop := cqNilsRow.holds Try.pinned (OpenSpec.ofChange cqNilsWrong)

/-- 'towropelaw23.BacklogPlays': WHATEVER THE INPUT: true; the input reads as it did. -/
def backlogPlaysSpec : ChangeSpec := { name := "backlogPlays", fn := fun _ => fun
  | [d1, d2, d3] => { results := [.lit (.bool true)], args := [d1, d2, d3] }
  | _ => none }
def backlogPlaysRow : OpenClaim := { program := "ytimgfdkndlbfbaa", sum := "04c211ee8e224c7db8a433397ff17ed286da91803e0d2ba072452374612c5594", func := "towrope/towropelaw23.BacklogPlays", spec := "backlogPlays", plainKeys := false, apart := false }
def BacklogPlaysSaid : Prop := backlogPlaysRow.holds Try.pinned (OpenSpec.ofChange backlogPlaysSpec)

/-- ITS FALSE NEIGHBOUR: 'it returns false'. Refute it at one input. -/
def backlogPlaysWrong : ChangeSpec := { name := "backlogPlays", fn := fun _ => fun
  | [d1, d2, d3] => { results := [.lit (.bool false)], args := [d1, d2, d3] }
  | _ => none }
def BacklogPlaysWrongFalsely : Prop := backlogPlaysRow.holds Try.pinned (OpenSpec.ofChange backlogPlaysWrong)

/-- 'towropelaw23.BacklogOnce': WHATEVER THE INPUT: true; the input reads as it did. -/
def backlogOnceSpec : ChangeSpec := { name := "backlogOnce", fn := fun _ => fun
  | [d] => { results := [.lit (.bool true)], args := [d] }
  | _ => none }
def backlogOnceRow : OpenClaim := { program := "ytimgfdkndlbfbaa", sum := "04c211ee8e224c7db8a433397ff17ed286da91803e0d2ba072452374612c5594", func := "towrope/towropelaw23.BacklogOnce", spec := "backlogOnce", plainKeys := false, apart := false }
def BacklogOnceSaid : Prop := backlogOnceRow.holds Try.pinned (OpenSpec.ofChange backlogOnceSpec)

/-- ITS FALSE NEIGHBOUR: 'it returns false'. Refute it at one input. -/
def backlogOnceWrong : ChangeSpec := { name := "backlogOnce", fn := fun _ => fun
  | [d] => { results := [.lit (.bool false)], args := [d] }
  | _ => none }
def BacklogOnceWrongFalsely : Prop := backlogOnceRow.holds Try.pinned (OpenSpec.ofChange backlogOnceWrong)

/-- 'towropelaw18.PortPlays': WHATEVER THE INPUT: true; the input reads as it did. -/
def portPlaysSpec : ChangeSpec := { name := "portPlays", fn := fun _ => fun
  | [d1, d2, d3] => { results := [.lit (.bool true)], args := [d1, d2, d3] }
  | _ => none }
def portPlaysRow : OpenClaim := { program := "ytimgfdkndlbfbaa", sum := "04c211ee8e224c7db8a433397ff17ed286da91803e0d2ba072452374612c5594", func := "towrope/towropelaw18.PortPlays", spec := "portPlays", plainKeys := false, apart := false }
def PortPlaysSaid : Prop := portPlaysRow.holds Try.pinned (OpenSpec.ofChange portPlaysSpec)

/-- ITS FALSE NEIGHBOUR: 'it returns false'. Refute it at one input. -/
def portPlaysWrong : ChangeSpec := { name := "portPlays", fn := fun _ => fun
  | [d1, d2, d3] => { results := [.lit (.bool false)], args := [d1, d2, d3] }
  | _ => none }
def PortPlaysWrongFalsely : Prop := portPlaysRow.holds Try.pinned (OpenSpec.ofChange portPlaysWrong)

/-- 'towropelaw18.PortPicks': WHATEVER THE INPUT: true; the input reads as it did. -/
def portPicksSpec : ChangeSpec := { name := "portPicks", fn := fun _ => fun
  | [d1, d2, d3] => { results := [.lit (.bool true)], args := [d1, d2, d3] }
  | _ => none }
def portPicksRow : OpenClaim := { program := "ytimgfdkndlbfbaa", sum := "04c211ee8e224c7db8a433397ff17ed286da91803e0d2ba072452374612c5594", func := "towrope/towropelaw18.PortPicks", spec := "portPicks", plainKeys := false, apart := false }
def PortPicksSaid : Prop := portPicksRow.holds Try.pinned (OpenSpec.ofChange portPicksSpec)

/-- ITS FALSE NEIGHBOUR: 'it returns false'. Refute it at one input. -/
def portPicksWrong : ChangeSpec := { name := "portPicks", fn := fun _ => fun
  | [d1, d2, d3] => { results := [.lit (.bool false)], args := [d1, d2, d3] }
  | _ => none }
def PortPicksWrongFalsely : Prop := portPicksRow.holds Try.pinned (OpenSpec.ofChange portPicksWrong)

/-- 'towropelaw18.PortNils': WHATEVER THE INPUT: true; the input reads as it did. -/
def portNilsSpec : ChangeSpec := { name := "portNils", fn := fun _ => fun
  | [d] => { results := [.lit (.bool true)], args := [d] }
  | _ => none }
def portNilsRow : OpenClaim := { program := "ytimgfdkndlbfbaa", sum := "04c211ee8e224c7db8a433397ff17ed286da91803e0d2ba072452374612c5594", func := "towrope/towropelaw18.PortNils", spec := "portNils", plainKeys := false, apart := false }
def PortNilsSaid : Prop := portNilsRow.holds Try.pinned (OpenSpec.ofChange portNilsSpec)

/-- ITS FALSE NEIGHBOUR: 'it returns false'. Refute it at one input. -/
def portNilsWrong : ChangeSpec := { name := "portNils", fn := fun _ => fun
  | [d] => { results := [.lit (.bool false)], args := [d] }
  | _ => none }
def PortNilsWrongFalsely : Prop := portNilsRow.holds Try.pinned (OpenSpec.ofChange portNilsWrong)

/-- 'towropelaw30.WireKeeps': WHATEVER THE INPUT: true; the input reads as it did. -/
def wireKeepsSpec : ChangeSpec := { name := "wireKeeps", fn := fun _ => fun
  | [d] => { results := [.lit (.bool true)], args := [d] }
  | _ => none }
def wireKeepsRow : OpenClaim := { program := "ytimgfdkndlbfbaa", sum := "04c211ee8e224c7db8a433397ff17ed286da91803e0d2ba072452374612c5594", func := "towrope/towropelaw30.WireKeeps", spec := "wireKeeps", unfollowed := true, recurses := true, plainKeys := false, apart := false }
def WireKeepsSaid : Prop := wireKeepsRow.holds Try.pinned (OpenSpec.ofChange wireKeepsSpec)

/-- ITS FALSE NEIGHBOUR: 'it returns false'. Refute it at one input. -/
def wireKeepsWrong : ChangeSpec := { name := "wireKeeps", fn := fun _ => fun
  | [d] => { results := [.lit (.bool false)], args := [d] }
  | _ => none }
def WireKeepsWrongFalsely : Prop := wireKeepsRow.holds Try.pinned (OpenSpec.ofChange wireKeepsWrong)

/- THE SECOND FORM. 'bulk': how many values and letters a reading holds, each counted each time it is reached (what is shared counts as often as it is met; a slice's spare places count too). A statement '..UptoSaid' is the law's where the arguments, and the package variables that the reading takes, are together of bulk at most 1048576: NARROWER than '..Said'. Prove '..Said' where nothing that the law and all that it calls make is longer than what came in: it says more and counts as full. Else prove '..UptoSaid'. A law counts once. -/
mutual
def uptoBulk {H : Type} : DataW H → Nat
  | .lit (.string bytes) => bytes.length + 1
  | .lit _ => 1
  | .nil => 1
  | .ptr d => uptoBulk d + 1
  | .slice elems spare => uptoBulkAll elems + uptoBulkAll spare + 1
  | .agg parts => uptoBulkAll parts + 1
  | .iface _ d => uptoBulk d + 1
  | .map entries => uptoBulkEntries entries + 1
  | .held _ => 1
def uptoBulkAll {H : Type} : List (DataW H) → Nat
  | [] => 0
  | d :: r => uptoBulk d + uptoBulkAll r
def uptoBulkEntries {H : Type} : List (Lit × DataW H) → Nat
  | [] => 0
  | x :: r => uptoBulkEntry x + uptoBulkEntries r
def uptoBulkEntry {H : Type} : Lit × DataW H → Nat
  | (.string bytes, d) => bytes.length + uptoBulk d + 1
  | (_, d) => uptoBulk d + 1
 end
def uptoSmall : (H : Type) → List (DataW H) → Bool := fun _ ds => decide (uptoBulkAll ds ≤ 1048576)
def OpenSpec.upto (s : _root_.Go.ChangeSpec) : _root_.Go.OpenSpec := { _root_.Go.OpenSpec.ofChange s with cond := some uptoSmall }

/-- 'towropelaw27.CqKeeps', WHERE WHAT IT READS IS OF BULK AT MOST 1048576: true; the input reads as it did. -/
def cqKeepsUptoRow : OpenClaim := { program := "ytimgfdkndlbfbaa", sum := "04c211ee8e224c7db8a433397ff17ed286da91803e0d2ba072452374612c5594", func := "towrope/towropelaw27.CqKeeps", spec := "cqKeeps", plainKeys := false, apart := false, narrowed := true }
def CqKeepsUptoSaid : Prop := cqKeepsUptoRow.holds Try.pinned (OpenSpec.upto cqKeepsSpec)

/-- 'towropelaw27.CqPlays', WHERE WHAT IT READS IS OF BULK AT MOST 1048576: true; the input reads as it did. -/
def cqPlaysUptoRow : OpenClaim := { program := "ytimgfdkndlbfbaa", sum := "04c211ee8e224c7db8a433397ff17ed286da91803e0d2ba072452374612c5594", func := "towrope/towropelaw27.CqPlays", spec := "cqPlays", plainKeys := false, apart := false, narrowed := true }
def CqPlaysUptoSaid : Prop := cqPlaysUptoRow.holds Try.pinned (OpenSpec.upto cqPlaysSpec)

/-- 'towropelaw27.CqNils', WHERE WHAT IT READS IS OF BULK AT MOST 1048576: true; the input reads as it did. -/
def cqNilsUptoRow : OpenClaim := { program := "ytimgfdkndlbfbaa", sum := "04c211ee8e224c7db8a433397ff17ed286da91803e0d2ba072452374612c5594", func := "towrope/towropelaw27.CqNils", spec := "cqNils", plainKeys := false, apart := false, narrowed := true }
def CqNilsUptoSaid : Prop := cqNilsUptoRow.holds Try.pinned (OpenSpec.upto cqNilsSpec)

/-- 'towropelaw23.BacklogPlays', WHERE WHAT IT READS IS OF BULK AT MOST 1048576: true; the input reads as it did. -/
def backlogPlaysUptoRow : OpenClaim := { program := "ytimgfdkndlbfbaa", sum := "04c211ee8e224c7db8a433397ff17ed286da91803e0d2ba072452374612c5594", func := "towrope/towropelaw23.BacklogPlays", spec := "backlogPlays", plainKeys := false, apart := false, narrowed := true }
def BacklogPlaysUptoSaid : Prop := backlogPlaysUptoRow.holds Try.pinned (OpenSpec.upto backlogPlaysSpec)

/-- 'towropelaw23.BacklogOnce', WHERE WHAT IT READS IS OF BULK AT MOST 1048576: true; the input reads as it did. -/
def backlogOnceUptoRow : OpenClaim := { program := "ytimgfdkndlbfbaa", sum := "04c211ee8e224c7db8a433397ff17ed286da91803e0d2ba072452374612c5594", func := "towrope/towropelaw23.BacklogOnce", spec := "backlogOnce", plainKeys := false, apart := false, narrowed := true }
def BacklogOnceUptoSaid : Prop := backlogOnceUptoRow.holds Try.pinned (OpenSpec.upto backlogOnceSpec)

/-- 'towropelaw18.PortPlays', WHERE WHAT IT READS IS OF BULK AT MOST 1048576: true; the input reads as it did. -/
def portPlaysUptoRow : OpenClaim := { program := "ytimgfdkndlbfbaa", sum := "04c211ee8e224c7db8a433397ff17ed286da91803e0d2ba072452374612c5594", func := "towrope/towropelaw18.PortPlays", spec := "portPlays", plainKeys := false, apart := false, narrowed := true }
def PortPlaysUptoSaid : Prop := portPlaysUptoRow.holds Try.pinned (OpenSpec.upto portPlaysSpec)

/-- 'towropelaw18.PortPicks', WHERE WHAT IT READS IS OF BULK AT MOST 1048576: true; the input reads as it did. -/
def portPicksUptoRow : OpenClaim := { program := "ytimgfdkndlbfbaa", sum := "04c211ee8e224c7db8a433397ff17ed286da91803e0d2ba072452374612c5594", func := "towrope/towropelaw18.PortPicks", spec := "portPicks", plainKeys := false, apart := false, narrowed := true }
def PortPicksUptoSaid : Prop := portPicksUptoRow.holds Try.pinned (OpenSpec.upto portPicksSpec)

/-- 'towropelaw18.PortNils', WHERE WHAT IT READS IS OF BULK AT MOST 1048576: true; the input reads as it did. -/
def portNilsUptoRow : OpenClaim := { program := "ytimgfdkndlbfbaa", sum := "04c211ee8e224c7db8a433397ff17ed286da91803e0d2ba072452374612c5594", func := "towrope/towropelaw18.PortNils", spec := "portNils", plainKeys := false, apart := false, narrowed := true }
def PortNilsUptoSaid : Prop := portNilsUptoRow.holds Try.pinned (OpenSpec.upto portNilsSpec)

/-- 'towropelaw30.WireKeeps', WHERE WHAT IT READS IS OF BULK AT MOST 1048576: true; the input reads as it did. -/
def wireKeepsUptoRow : OpenClaim := { program := "ytimgfdkndlbfbaa", sum := "04c211ee8e224c7db8a433397ff17ed286da91803e0d2ba072452374612c5594", func := "towrope/towropelaw30.WireKeeps", spec := "wireKeeps", unfollowed := true, recurses := true, plainKeys := false, apart := false, narrowed := true }
def WireKeepsUptoSaid : Prop := wireKeepsUptoRow.holds Try.pinned (OpenSpec.upto wireKeepsSpec)

end Rows
end Go.Proofs.Ytimgfdkndlbfbaa
