/-
  No cell of these rows narrows 'for every input' (looked for: loops, veiled, ifaces, maps, wideKeys, modest, calm, conditions, laid).
  DERIVED. THE GIVEN ROWS OF THIS SEAT. 12 by the template 'for every input the law returns true; each argument reads behind the call as it read before'; 0 by the template 'total and deterministic' (their statements: YtdphjljbdodonaaTotals.lean).
  GIVEN WITH THE SEED: the statements are not yours to turn. If you find one false, say at which input.
  Laid BY PROGRAM, IN A SANDBOX (cutbox-rows.mjs): the forced cells as the released guide's own fill.sh prints them over the translation 12e3461371d97331… (all of the seat's roots in one cut). By AI agents, Wed Nov 11 2026. No macro, syntax, notation, axiom, sorry.
-/
import Derived.Test.YtdphjljbdodonaaChecked
import GoSem.Claim
import GoSem.ClaimJoined
import GoSem.ClaimMapViews
import Derived.JoinedTies
import Derived.KernelRfl
namespace Go.Proofs.Ytdphjljbdodonaa
/- THE CELL 'sum', in the pinned program and in every row, IS THE sha256 OF THE DUMP (.gsa) THAT YtdphjljbdodonaaProg.lean LOADS. Nothing in Lean hashes anything: it is a label: what it is worth is what the hold of that sum in a sandbox is worth. -/
noncomputable def Try.pinned : Pinned := { name := "ytdphjljbdodonaa", sum := "12e3461371d9733183a859830ca8f9d5feeff7284aaf6b6c11b7b7adbd19e6bc", checked := Try.checked }
namespace Rows
def none {H : Type} : Left H := { results := [], args := [] }

/-- 'towropelaw07.IcmpEchoes': WHATEVER THE INPUT: true; the input reads as it did. -/
def icmpEchoesSpec : ChangeSpec := { name := "icmpEchoes", fn := fun _ => fun
  | [d1, d2, d3] => { results := [.lit (.bool true)], args := [d1, d2, d3] }
  | _ => none }
def icmpEchoesRow : OpenClaim := { program := "ytdphjljbdodonaa", sum := "12e3461371d9733183a859830ca8f9d5feeff7284aaf6b6c11b7b7adbd19e6bc", func := "towrope/towropelaw07.IcmpEchoes", spec := "icmpEchoes", unfollowed := true, recurses := true, apart := false }
def IcmpEchoesSaid : Prop := icmpEchoesRow.holds Try.pinned (OpenSpec.ofChange icmpEchoesSpec)

/-- ITS FALSE NEIGHBOUR: 'it returns false'. Refute it at one input. -/
def icmpEchoesWrong : ChangeSpec := { name := "icmpEchoes", fn := fun _ => fun
  | [d1, d2, d3] => { results := [.lit (.bool false)], args := [d1, d2, d3] }
  | _ => none }
def IcmpEchoesWrongFalsely : Prop := icmpEchoesRow.holds Try.pinned (OpenSpec.ofChange icmpEchoesWrong)

/-- 'towropelaw06.IpSame': WHATEVER THE INPUT: true; the input reads as it did. -/
def ipSameSpec : ChangeSpec := { name := "ipSame", fn := fun _ => fun
  | [d1, d2] => { results := [.lit (.bool true)], args := [d1, d2] }
  | _ => none }
def ipSameRow : OpenClaim := { program := "ytdphjljbdodonaa", sum := "12e3461371d9733183a859830ca8f9d5feeff7284aaf6b6c11b7b7adbd19e6bc", func := "towrope/towropelaw06.IpSame", spec := "ipSame", unfollowed := true, recurses := true, apart := false }
def IpSameSaid : Prop := ipSameRow.holds Try.pinned (OpenSpec.ofChange ipSameSpec)

/-- ITS FALSE NEIGHBOUR: 'it returns false'. Refute it at one input. -/
def ipSameWrong : ChangeSpec := { name := "ipSame", fn := fun _ => fun
  | [d1, d2] => { results := [.lit (.bool false)], args := [d1, d2] }
  | _ => none }
def IpSameWrongFalsely : Prop := ipSameRow.holds Try.pinned (OpenSpec.ofChange ipSameWrong)

/-- 'towropelaw07.IcmpGets': WHATEVER THE INPUT: true; the input reads as it did. -/
def icmpGetsSpec : ChangeSpec := { name := "icmpGets", fn := fun _ => fun
  | [d] => { results := [.lit (.bool true)], args := [d] }
  | _ => none }
def icmpGetsRow : OpenClaim := { program := "ytdphjljbdodonaa", sum := "12e3461371d9733183a859830ca8f9d5feeff7284aaf6b6c11b7b7adbd19e6bc", func := "towrope/towropelaw07.IcmpGets", spec := "icmpGets", unfollowed := true, recurses := true, apart := false }
def IcmpGetsSaid : Prop := icmpGetsRow.holds Try.pinned (OpenSpec.ofChange icmpGetsSpec)

/-- ITS FALSE NEIGHBOUR: 'it returns false'. Refute it at one input. -/
def icmpGetsWrong : ChangeSpec := { name := "icmpGets", fn := fun _ => fun
  | [d] => { results := [.lit (.bool false)], args := [d] }
  | _ => none }
def IcmpGetsWrongFalsely : Prop := icmpGetsRow.holds Try.pinned (OpenSpec.ofChange icmpGetsWrong)

/-- 'towropelaw07.IcmpTurned': WHATEVER THE INPUT: true; the input reads as it did. -/
def icmpTurnedSpec : ChangeSpec := { name := "icmpTurned", fn := fun _ => fun
  | [d1, d2, d3] => { results := [.lit (.bool true)], args := [d1, d2, d3] }
  | _ => none }
def icmpTurnedRow : OpenClaim := { program := "ytdphjljbdodonaa", sum := "12e3461371d9733183a859830ca8f9d5feeff7284aaf6b6c11b7b7adbd19e6bc", func := "towrope/towropelaw07.IcmpTurned", spec := "icmpTurned", unfollowed := true, recurses := true, apart := false }
def IcmpTurnedSaid : Prop := icmpTurnedRow.holds Try.pinned (OpenSpec.ofChange icmpTurnedSpec)

/-- ITS FALSE NEIGHBOUR: 'it returns false'. Refute it at one input. -/
def icmpTurnedWrong : ChangeSpec := { name := "icmpTurned", fn := fun _ => fun
  | [d1, d2, d3] => { results := [.lit (.bool false)], args := [d1, d2, d3] }
  | _ => none }
def IcmpTurnedWrongFalsely : Prop := icmpTurnedRow.holds Try.pinned (OpenSpec.ofChange icmpTurnedWrong)

/-- 'towropelaw07.IcmpPuts': WHATEVER THE INPUT: true; the input reads as it did. -/
def icmpPutsSpec : ChangeSpec := { name := "icmpPuts", fn := fun _ => fun
  | [d] => { results := [.lit (.bool true)], args := [d] }
  | _ => none }
def icmpPutsRow : OpenClaim := { program := "ytdphjljbdodonaa", sum := "12e3461371d9733183a859830ca8f9d5feeff7284aaf6b6c11b7b7adbd19e6bc", func := "towrope/towropelaw07.IcmpPuts", spec := "icmpPuts", unfollowed := true, recurses := true, apart := false }
def IcmpPutsSaid : Prop := icmpPutsRow.holds Try.pinned (OpenSpec.ofChange icmpPutsSpec)

/-- ITS FALSE NEIGHBOUR: 'it returns false'. Refute it at one input. -/
def icmpPutsWrong : ChangeSpec := { name := "icmpPuts", fn := fun _ => fun
  | [d] => { results := [.lit (.bool false)], args := [d] }
  | _ => none }
def IcmpPutsWrongFalsely : Prop := icmpPutsRow.holds Try.pinned (OpenSpec.ofChange icmpPutsWrong)

/-- 'towropelaw07.IcmpCauses': WHATEVER THE INPUT: true; the input reads as it did. -/
def icmpCausesSpec : ChangeSpec := { name := "icmpCauses", fn := fun _ => fun
  | [d1, d2, d3, d4] => { results := [.lit (.bool true)], args := [d1, d2, d3, d4] }
  | _ => none }
def icmpCausesRow : OpenClaim := { program := "ytdphjljbdodonaa", sum := "12e3461371d9733183a859830ca8f9d5feeff7284aaf6b6c11b7b7adbd19e6bc", func := "towrope/towropelaw07.IcmpCauses", spec := "icmpCauses", unfollowed := true, recurses := true, apart := false }
def IcmpCausesSaid : Prop := icmpCausesRow.holds Try.pinned (OpenSpec.ofChange icmpCausesSpec)

/-- ITS FALSE NEIGHBOUR: 'it returns false'. Refute it at one input. -/
def icmpCausesWrong : ChangeSpec := { name := "icmpCauses", fn := fun _ => fun
  | [d1, d2, d3, d4] => { results := [.lit (.bool false)], args := [d1, d2, d3, d4] }
  | _ => none }
def IcmpCausesWrongFalsely : Prop := icmpCausesRow.holds Try.pinned (OpenSpec.ofChange icmpCausesWrong)

/-- 'towropelaw07.IcmpBack': WHATEVER THE INPUT: true; the input reads as it did. -/
def icmpBackSpec : ChangeSpec := { name := "icmpBack", fn := fun _ => fun
  | [d1, d2] => { results := [.lit (.bool true)], args := [d1, d2] }
  | _ => none }
def icmpBackRow : OpenClaim := { program := "ytdphjljbdodonaa", sum := "12e3461371d9733183a859830ca8f9d5feeff7284aaf6b6c11b7b7adbd19e6bc", func := "towrope/towropelaw07.IcmpBack", spec := "icmpBack", unfollowed := true, recurses := true, apart := false }
def IcmpBackSaid : Prop := icmpBackRow.holds Try.pinned (OpenSpec.ofChange icmpBackSpec)

/-- ITS FALSE NEIGHBOUR: 'it returns false'. Refute it at one input. -/
def icmpBackWrong : ChangeSpec := { name := "icmpBack", fn := fun _ => fun
  | [d1, d2] => { results := [.lit (.bool false)], args := [d1, d2] }
  | _ => none }
def IcmpBackWrongFalsely : Prop := icmpBackRow.holds Try.pinned (OpenSpec.ofChange icmpBackWrong)

/-- 'towropelaw06.IpGets': WHATEVER THE INPUT: true; the input reads as it did. -/
def ipGetsSpec : ChangeSpec := { name := "ipGets", fn := fun _ => fun
  | [d] => { results := [.lit (.bool true)], args := [d] }
  | _ => none }
def ipGetsRow : OpenClaim := { program := "ytdphjljbdodonaa", sum := "12e3461371d9733183a859830ca8f9d5feeff7284aaf6b6c11b7b7adbd19e6bc", func := "towrope/towropelaw06.IpGets", spec := "ipGets", unfollowed := true, recurses := true, apart := false }
def IpGetsSaid : Prop := ipGetsRow.holds Try.pinned (OpenSpec.ofChange ipGetsSpec)

/-- ITS FALSE NEIGHBOUR: 'it returns false'. Refute it at one input. -/
def ipGetsWrong : ChangeSpec := { name := "ipGets", fn := fun _ => fun
  | [d] => { results := [.lit (.bool false)], args := [d] }
  | _ => none }
def IpGetsWrongFalsely : Prop := ipGetsRow.holds Try.pinned (OpenSpec.ofChange ipGetsWrong)

/-- 'towropelaw06.IpBack': WHATEVER THE INPUT: true; the input reads as it did. -/
def ipBackSpec : ChangeSpec := { name := "ipBack", fn := fun _ => fun
  | [d] => { results := [.lit (.bool true)], args := [d] }
  | _ => none }
def ipBackRow : OpenClaim := { program := "ytdphjljbdodonaa", sum := "12e3461371d9733183a859830ca8f9d5feeff7284aaf6b6c11b7b7adbd19e6bc", func := "towrope/towropelaw06.IpBack", spec := "ipBack", unfollowed := true, recurses := true, apart := false }
def IpBackSaid : Prop := ipBackRow.holds Try.pinned (OpenSpec.ofChange ipBackSpec)

/-- ITS FALSE NEIGHBOUR: 'it returns false'. Refute it at one input. -/
def ipBackWrong : ChangeSpec := { name := "ipBack", fn := fun _ => fun
  | [d] => { results := [.lit (.bool false)], args := [d] }
  | _ => none }
def IpBackWrongFalsely : Prop := ipBackRow.holds Try.pinned (OpenSpec.ofChange ipBackWrong)

/-- 'towropelaw06.IpTurned': WHATEVER THE INPUT: true; the input reads as it did. -/
def ipTurnedSpec : ChangeSpec := { name := "ipTurned", fn := fun _ => fun
  | [d1, d2, d3] => { results := [.lit (.bool true)], args := [d1, d2, d3] }
  | _ => none }
def ipTurnedRow : OpenClaim := { program := "ytdphjljbdodonaa", sum := "12e3461371d9733183a859830ca8f9d5feeff7284aaf6b6c11b7b7adbd19e6bc", func := "towrope/towropelaw06.IpTurned", spec := "ipTurned", unfollowed := true, recurses := true, apart := false }
def IpTurnedSaid : Prop := ipTurnedRow.holds Try.pinned (OpenSpec.ofChange ipTurnedSpec)

/-- ITS FALSE NEIGHBOUR: 'it returns false'. Refute it at one input. -/
def ipTurnedWrong : ChangeSpec := { name := "ipTurned", fn := fun _ => fun
  | [d1, d2, d3] => { results := [.lit (.bool false)], args := [d1, d2, d3] }
  | _ => none }
def IpTurnedWrongFalsely : Prop := ipTurnedRow.holds Try.pinned (OpenSpec.ofChange ipTurnedWrong)

/-- 'towropelaw06.IpPuts': WHATEVER THE INPUT: true; the input reads as it did. -/
def ipPutsSpec : ChangeSpec := { name := "ipPuts", fn := fun _ => fun
  | [d1, d2] => { results := [.lit (.bool true)], args := [d1, d2] }
  | _ => none }
def ipPutsRow : OpenClaim := { program := "ytdphjljbdodonaa", sum := "12e3461371d9733183a859830ca8f9d5feeff7284aaf6b6c11b7b7adbd19e6bc", func := "towrope/towropelaw06.IpPuts", spec := "ipPuts", unfollowed := true, recurses := true, apart := false }
def IpPutsSaid : Prop := ipPutsRow.holds Try.pinned (OpenSpec.ofChange ipPutsSpec)

/-- ITS FALSE NEIGHBOUR: 'it returns false'. Refute it at one input. -/
def ipPutsWrong : ChangeSpec := { name := "ipPuts", fn := fun _ => fun
  | [d1, d2] => { results := [.lit (.bool false)], args := [d1, d2] }
  | _ => none }
def IpPutsWrongFalsely : Prop := ipPutsRow.holds Try.pinned (OpenSpec.ofChange ipPutsWrong)

/-- 'towropelaw06.IpLives': WHATEVER THE INPUT: true; the input reads as it did. -/
def ipLivesSpec : ChangeSpec := { name := "ipLives", fn := fun _ => fun
  | [d] => { results := [.lit (.bool true)], args := [d] }
  | _ => none }
def ipLivesRow : OpenClaim := { program := "ytdphjljbdodonaa", sum := "12e3461371d9733183a859830ca8f9d5feeff7284aaf6b6c11b7b7adbd19e6bc", func := "towrope/towropelaw06.IpLives", spec := "ipLives", unfollowed := true, recurses := true, apart := false }
def IpLivesSaid : Prop := ipLivesRow.holds Try.pinned (OpenSpec.ofChange ipLivesSpec)

/-- ITS FALSE NEIGHBOUR: 'it returns false'. Refute it at one input. -/
def ipLivesWrong : ChangeSpec := { name := "ipLives", fn := fun _ => fun
  | [d] => { results := [.lit (.bool false)], args := [d] }
  | _ => none }
def IpLivesWrongFalsely : Prop := ipLivesRow.holds Try.pinned (OpenSpec.ofChange ipLivesWrong)

/- THE SECOND FORM. 'bulk': how many values and letters a reading holds, each counted each time it is reached (what is shared counts as often as it is met; a slice's spare places count too). A statement '..UptoSaid' is the law's where the arguments, and the package variables that the reading takes, are together of bulk at most 1048576: NARROWER than '..Said'. Prove '..Said' where nothing that the law and all that it calls make is longer than what came in: it says more and counts as full. Else prove '..UptoSaid'. A law counts once. -/
mutual
def uptoBulk {H : Type} : DataW H → Nat
  | .lit (.string bytes) => bytes.length + 1
  | .lit _ => 1
  | .nil => 1
  | .ptr d => uptoBulk d + 1
  | .slice elems spare => uptoBulkAll elems + uptoBulkAll spare + 1
  | .agg parts => uptoBulkAll parts + 1
  | .iface _ d => uptoBulk d + 1
  | .map entries => uptoBulkEntries entries + 1
  | .held _ => 1
def uptoBulkAll {H : Type} : List (DataW H) → Nat
  | [] => 0
  | d :: r => uptoBulk d + uptoBulkAll r
def uptoBulkEntries {H : Type} : List (Lit × DataW H) → Nat
  | [] => 0
  | x :: r => uptoBulkEntry x + uptoBulkEntries r
def uptoBulkEntry {H : Type} : Lit × DataW H → Nat
  | (.string bytes, d) => bytes.length + uptoBulk d + 1
  | (_, d) => uptoBulk d + 1
 end
def uptoSmall : (H : Type) → List (DataW H) → Bool := fun _ ds => decide (uptoBulkAll ds ≤ 1048576)
def OpenSpec.upto (s : _root_.Go.ChangeSpec) : _root_.Go.OpenSpec := { _root_.Go.OpenSpec.ofChange s with cond := some uptoSmall }

/-- 'towropelaw07.IcmpEchoes', WHERE WHAT IT READS IS OF BULK AT MOST 1048576: true; the input reads as it did. -/
def icmpEchoesUptoRow : OpenClaim := { program := "ytdphjljbdodonaa", sum := "12e3461371d9733183a859830ca8f9d5feeff7284aaf6b6c11b7b7adbd19e6bc", func := "towrope/towropelaw07.IcmpEchoes", spec := "icmpEchoes", unfollowed := true, recurses := true, apart := false, narrowed := true }
def IcmpEchoesUptoSaid : Prop := icmpEchoesUptoRow.holds Try.pinned (OpenSpec.upto icmpEchoesSpec)

/-- 'towropelaw06.IpSame', WHERE WHAT IT READS IS OF BULK AT MOST 1048576: true; the input reads as it did. -/
def ipSameUptoRow : OpenClaim := { program := "ytdphjljbdodonaa", sum := "12e3461371d9733183a859830ca8f9d5feeff7284aaf6b6c11b7b7adbd19e6bc", func := "towrope/towropelaw06.IpSame", spec := "ipSame", unfollowed := true, recurses := true, apart := false, narrowed := true }
def IpSameUptoSaid : Prop := ipSameUptoRow.holds Try.pinned (OpenSpec.upto ipSameSpec)

/-- 'towropelaw07.IcmpGets', WHERE WHAT IT READS IS OF BULK AT MOST 1048576: true; the input reads as it did. -/
def icmpGetsUptoRow : OpenClaim := { program := "ytdphjljbdodonaa", sum := "12e3461371d9733183a859830ca8f9d5feeff7284aaf6b6c11b7b7adbd19e6bc", func := "towrope/towropelaw07.IcmpGets", spec := "icmpGets", unfollowed := true, recurses := true, apart := false, narrowed := true }
def IcmpGetsUptoSaid : Prop := icmpGetsUptoRow.holds Try.pinned (OpenSpec.upto icmpGetsSpec)

/-- 'towropelaw07.IcmpTurned', WHERE WHAT IT READS IS OF BULK AT MOST 1048576: true; the input reads as it did. -/
def icmpTurnedUptoRow : OpenClaim := { program := "ytdphjljbdodonaa", sum := "12e3461371d9733183a859830ca8f9d5feeff7284aaf6b6c11b7b7adbd19e6bc", func := "towrope/towropelaw07.IcmpTurned", spec := "icmpTurned", unfollowed := true, recurses := true, apart := false, narrowed := true }
def IcmpTurnedUptoSaid : Prop := icmpTurnedUptoRow.holds Try.pinned (OpenSpec.upto icmpTurnedSpec)

/-- 'towropelaw07.IcmpPuts', WHERE WHAT IT READS IS OF BULK AT MOST 1048576: true; the input reads as it did. -/
def icmpPutsUptoRow : OpenClaim := { program := "ytdphjljbdodonaa", sum := "12e3461371d9733183a859830ca8f9d5feeff7284aaf6b6c11b7b7adbd19e6bc", func := "towrope/towropelaw07.IcmpPuts", spec := "icmpPuts", unfollowed := true, recurses := true, apart := false, narrowed := true }
def IcmpPutsUptoSaid : Prop := icmpPutsUptoRow.holds Try.pinned (OpenSpec.upto icmpPutsSpec)

/-- 'towropelaw07.IcmpCauses', WHERE WHAT IT READS IS OF BULK AT MOST 1048576: true; the input reads as it did. -/
def icmpCausesUptoRow : OpenClaim := { program := "ytdphjljbdodonaa", sum := "12e3461371d9733183a859830ca8f9d5feeff7284aaf6b6c11b7b7adbd19e6bc", func := "towrope/towropelaw07.IcmpCauses", spec := "icmpCauses", unfollowed := true, recurses := true, apart := false, narrowed := true }
def IcmpCausesUptoSaid : Prop := icmpCausesUptoRow.holds Try.pinned (OpenSpec.upto icmpCausesSpec)

/-- 'towropelaw07.IcmpBack', WHERE WHAT IT READS IS OF BULK AT MOST 1048576: true; the input reads as it did. -/
def icmpBackUptoRow : OpenClaim := { program := "ytdphjljbdodonaa", sum := "12e3461371d9733183a859830ca8f9d5feeff7284aaf6b6c11b7b7adbd19e6bc", func := "towrope/towropelaw07.IcmpBack", spec := "icmpBack", unfollowed := true, recurses := true, apart := false, narrowed := true }
def IcmpBackUptoSaid : Prop := icmpBackUptoRow.holds Try.pinned (OpenSpec.upto icmpBackSpec)

/-- 'towropelaw06.IpGets', WHERE WHAT IT READS IS OF BULK AT MOST 1048576: true; the input reads as it did. -/
def ipGetsUptoRow : OpenClaim := { program := "ytdphjljbdodonaa", sum := "12e3461371d9733183a859830ca8f9d5feeff7284aaf6b6c11b7b7adbd19e6bc", func := "towrope/towropelaw06.IpGets", spec := "ipGets", unfollowed := true, recurses := true, apart := false, narrowed := true }
def IpGetsUptoSaid : Prop := ipGetsUptoRow.holds Try.pinned (OpenSpec.upto ipGetsSpec)

/-- 'towropelaw06.IpBack', WHERE WHAT IT READS IS OF BULK AT MOST 1048576: true; the input reads as it did. -/
def ipBackUptoRow : OpenClaim := { program := "ytdphjljbdodonaa", sum := "12e3461371d9733183a859830ca8f9d5feeff7284aaf6b6c11b7b7adbd19e6bc", func := "towrope/towropelaw06.IpBack", spec := "ipBack", unfollowed := true, recurses := true, apart := false, narrowed := true }
def IpBackUptoSaid : Prop := ipBackUptoRow.holds Try.pinned (OpenSpec.upto ipBackSpec)

/-- 'towropelaw06.IpTurned', WHERE WHAT IT READS IS OF BULK AT MOST 1048576: true; the input reads as it did. -/
def ipTurnedUptoRow : OpenClaim := { program := "ytdphjljbdodonaa", sum := "12e3461371d9733183a859830ca8f9d5feeff7284aaf6b6c11b7b7adbd19e6bc", func := "towrope/towropelaw06.IpTurned", spec := "ipTurned", unfollowed := true, recurses := true, apart := false, narrowed := true }
def IpTurnedUptoSaid : Prop := ipTurnedUptoRow.holds Try.pinned (OpenSpec.upto ipTurnedSpec)

/-- 'towropelaw06.IpPuts', WHERE WHAT IT READS IS OF BULK AT MOST 1048576: true; the input reads as it did. -/
def ipPutsUptoRow : OpenClaim := { program := "ytdphjljbdodonaa", sum := "12e3461371d9733183a859830ca8f9d5feeff7284aaf6b6c11b7b7adbd19e6bc", func := "towrope/towropelaw06.IpPuts", spec := "ipPuts", unfollowed := true, recurses := true, apart := false, narrowed := true }
def IpPutsUptoSaid : Prop := ipPutsUptoRow.holds Try.pinned (OpenSpec.upto ipPutsSpec)

/-- 'towropelaw06.IpLives', WHERE WHAT IT READS IS OF BULK AT MOST 1048576: true; the input reads as it did. -/
def ipLivesUptoRow : OpenClaim := { program := "ytdphjljbdodonaa", sum := "12e3461371d9733183a859830ca8f9d5feeff7284aaf6b6c11b7b7adbd19e6bc", func := "towrope/towropelaw06.IpLives", spec := "ipLives", unfollowed := true, recurses := true, apart := false, narrowed := true }
def IpLivesUptoSaid : Prop := ipLivesUptoRow.holds Try.pinned (OpenSpec.upto ipLivesSpec)

end Rows
end Go.Proofs.Ytdphjljbdodonaa
