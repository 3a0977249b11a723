/-
  No cell of these rows narrows 'for every input' (looked for: loops, veiled, ifaces, maps, wideKeys, modest, calm, conditions, laid).
  DERIVED. THE GIVEN ROWS OF THIS SEAT. 7 by the template 'for every input the law returns true; each argument reads behind the call as it read before'; 0 by the template 'total and deterministic' (their statements: YtinicdlpinkmjaaTotals.lean).
  GIVEN WITH THE SEED: the statements are not yours to turn. If you find one false, say at which input.
  Laid BY PROGRAM, IN A SANDBOX (cutbox-rows.mjs): the forced cells as the released guide's own fill.sh prints them over the translation ab669c0c5bd37f76… (all of the seat's roots in one cut). By AI agents, Wed Nov 11 2026. No macro, syntax, notation, axiom, sorry.
-/
import Derived.Test.YtinicdlpinkmjaaChecked
import GoSem.Claim
import GoSem.ClaimJoined
import GoSem.ClaimMapViews
import Derived.JoinedTies
import Derived.KernelRfl
namespace Go.Proofs.Ytinicdlpinkmjaa
/- THE CELL 'sum', in the pinned program and in every row, IS THE sha256 OF THE DUMP (.gsa) THAT YtinicdlpinkmjaaProg.lean LOADS. Nothing in Lean hashes anything: it is a label: what it is worth is what the hold of that sum in a sandbox is worth. -/
noncomputable def Try.pinned : Pinned := { name := "ytinicdlpinkmjaa", sum := "ab669c0c5bd37f76fdcfd6fb0ef274cc7f0e7da522a008182c6a25bfaa25aed5", checked := Try.checked }
namespace Rows
def none {H : Type} : Left H := { results := [], args := [] }

/-- 'winchlaw21.BusHolds': WHATEVER THE INPUT: true; the input reads as it did. -/
def busHoldsSpec : ChangeSpec := { name := "busHolds", fn := fun _ => fun
  | [d] => { results := [.lit (.bool true)], args := [d] }
  | _ => none }
def busHoldsRow : OpenClaim := { program := "ytinicdlpinkmjaa", sum := "ab669c0c5bd37f76fdcfd6fb0ef274cc7f0e7da522a008182c6a25bfaa25aed5", func := "winch/winchlaw21.BusHolds", spec := "busHolds", unfollowed := true, recurses := true, apart := false }
def BusHoldsSaid : Prop := busHoldsRow.holds Try.pinned (OpenSpec.ofChange busHoldsSpec)

/-- ITS FALSE NEIGHBOUR: 'it returns false'. Refute it at one input. -/
def busHoldsWrong : ChangeSpec := { name := "busHolds", fn := fun _ => fun
  | [d] => { results := [.lit (.bool false)], args := [d] }
  | _ => none }
def BusHoldsWrongFalsely : Prop := busHoldsRow.holds Try.pinned (OpenSpec.ofChange busHoldsWrong)

/-- 'winchlaw21.BusClean': WHATEVER THE INPUT: true; the input reads as it did. -/
def busCleanSpec : ChangeSpec := { name := "busClean", fn := fun _ => fun
  | [d] => { results := [.lit (.bool true)], args := [d] }
  | _ => none }
def busCleanRow : OpenClaim := { program := "ytinicdlpinkmjaa", sum := "ab669c0c5bd37f76fdcfd6fb0ef274cc7f0e7da522a008182c6a25bfaa25aed5", func := "winch/winchlaw21.BusClean", spec := "busClean", unfollowed := true, recurses := true, apart := false }
def BusCleanSaid : Prop := busCleanRow.holds Try.pinned (OpenSpec.ofChange busCleanSpec)

/-- ITS FALSE NEIGHBOUR: 'it returns false'. Refute it at one input. -/
def busCleanWrong : ChangeSpec := { name := "busClean", fn := fun _ => fun
  | [d] => { results := [.lit (.bool false)], args := [d] }
  | _ => none }
def BusCleanWrongFalsely : Prop := busCleanRow.holds Try.pinned (OpenSpec.ofChange busCleanWrong)

/-- 'winchlaw21.BusTries': WHATEVER THE INPUT: true; the input reads as it did. -/
def busTriesSpec : ChangeSpec := { name := "busTries", fn := fun _ => fun
  | [d] => { results := [.lit (.bool true)], args := [d] }
  | _ => none }
def busTriesRow : OpenClaim := { program := "ytinicdlpinkmjaa", sum := "ab669c0c5bd37f76fdcfd6fb0ef274cc7f0e7da522a008182c6a25bfaa25aed5", func := "winch/winchlaw21.BusTries", spec := "busTries", unfollowed := true, recurses := true, apart := false }
def BusTriesSaid : Prop := busTriesRow.holds Try.pinned (OpenSpec.ofChange busTriesSpec)

/-- ITS FALSE NEIGHBOUR: 'it returns false'. Refute it at one input. -/
def busTriesWrong : ChangeSpec := { name := "busTries", fn := fun _ => fun
  | [d] => { results := [.lit (.bool false)], args := [d] }
  | _ => none }
def BusTriesWrongFalsely : Prop := busTriesRow.holds Try.pinned (OpenSpec.ofChange busTriesWrong)

/-- 'winchlaw21.BusCycles': WHATEVER THE INPUT: true; the input reads as it did. -/
def busCyclesSpec : ChangeSpec := { name := "busCycles", fn := fun _ => fun
  | [d1, d2] => { results := [.lit (.bool true)], args := [d1, d2] }
  | _ => none }
def busCyclesRow : OpenClaim := { program := "ytinicdlpinkmjaa", sum := "ab669c0c5bd37f76fdcfd6fb0ef274cc7f0e7da522a008182c6a25bfaa25aed5", func := "winch/winchlaw21.BusCycles", spec := "busCycles", unfollowed := true, recurses := true, apart := false }
def BusCyclesSaid : Prop := busCyclesRow.holds Try.pinned (OpenSpec.ofChange busCyclesSpec)

/-- ITS FALSE NEIGHBOUR: 'it returns false'. Refute it at one input. -/
def busCyclesWrong : ChangeSpec := { name := "busCycles", fn := fun _ => fun
  | [d1, d2] => { results := [.lit (.bool false)], args := [d1, d2] }
  | _ => none }
def BusCyclesWrongFalsely : Prop := busCyclesRow.holds Try.pinned (OpenSpec.ofChange busCyclesWrong)

/-- 'winchlaw21.BusFrames': WHATEVER THE INPUT: true; the input reads as it did. -/
def busFramesSpec : ChangeSpec := { name := "busFrames", fn := fun _ => fun
  | [d1, d2, d3] => { results := [.lit (.bool true)], args := [d1, d2, d3] }
  | _ => none }
def busFramesRow : OpenClaim := { program := "ytinicdlpinkmjaa", sum := "ab669c0c5bd37f76fdcfd6fb0ef274cc7f0e7da522a008182c6a25bfaa25aed5", func := "winch/winchlaw21.BusFrames", spec := "busFrames", unfollowed := true, recurses := true, apart := false }
def BusFramesSaid : Prop := busFramesRow.holds Try.pinned (OpenSpec.ofChange busFramesSpec)

/-- ITS FALSE NEIGHBOUR: 'it returns false'. Refute it at one input. -/
def busFramesWrong : ChangeSpec := { name := "busFrames", fn := fun _ => fun
  | [d1, d2, d3] => { results := [.lit (.bool false)], args := [d1, d2, d3] }
  | _ => none }
def BusFramesWrongFalsely : Prop := busFramesRow.holds Try.pinned (OpenSpec.ofChange busFramesWrong)

/-- 'winchlaw21.BusReads': WHATEVER THE INPUT: true; the input reads as it did. -/
def busReadsSpec : ChangeSpec := { name := "busReads", fn := fun _ => fun
  | [d] => { results := [.lit (.bool true)], args := [d] }
  | _ => none }
def busReadsRow : OpenClaim := { program := "ytinicdlpinkmjaa", sum := "ab669c0c5bd37f76fdcfd6fb0ef274cc7f0e7da522a008182c6a25bfaa25aed5", func := "winch/winchlaw21.BusReads", spec := "busReads", unfollowed := true, recurses := true, apart := false }
def BusReadsSaid : Prop := busReadsRow.holds Try.pinned (OpenSpec.ofChange busReadsSpec)

/-- ITS FALSE NEIGHBOUR: 'it returns false'. Refute it at one input. -/
def busReadsWrong : ChangeSpec := { name := "busReads", fn := fun _ => fun
  | [d] => { results := [.lit (.bool false)], args := [d] }
  | _ => none }
def BusReadsWrongFalsely : Prop := busReadsRow.holds Try.pinned (OpenSpec.ofChange busReadsWrong)

/-- 'winchlaw21.BusChanged': WHATEVER THE INPUT: true; the input reads as it did. -/
def busChangedSpec : ChangeSpec := { name := "busChanged", fn := fun _ => fun
  | [d1, d2, d3] => { results := [.lit (.bool true)], args := [d1, d2, d3] }
  | _ => none }
def busChangedRow : OpenClaim := { program := "ytinicdlpinkmjaa", sum := "ab669c0c5bd37f76fdcfd6fb0ef274cc7f0e7da522a008182c6a25bfaa25aed5", func := "winch/winchlaw21.BusChanged", spec := "busChanged", unfollowed := true, recurses := true, apart := false }
def BusChangedSaid : Prop := busChangedRow.holds Try.pinned (OpenSpec.ofChange busChangedSpec)

/-- ITS FALSE NEIGHBOUR: 'it returns false'. Refute it at one input. -/
def busChangedWrong : ChangeSpec := { name := "busChanged", fn := fun _ => fun
  | [d1, d2, d3] => { results := [.lit (.bool false)], args := [d1, d2, d3] }
  | _ => none }
def BusChangedWrongFalsely : Prop := busChangedRow.holds Try.pinned (OpenSpec.ofChange busChangedWrong)

/- THE SECOND FORM. 'bulk': how many values and letters a reading holds, each counted each time it is reached (what is shared counts as often as it is met; a slice's spare places count too). A statement '..UptoSaid' is the law's where the arguments, and the package variables that the reading takes, are together of bulk at most 1048576: NARROWER than '..Said'. Prove '..Said' where nothing that the law and all that it calls make is longer than what came in: it says more and counts as full. Else prove '..UptoSaid'. A law counts once. -/
mutual
def uptoBulk {H : Type} : DataW H → Nat
  | .lit (.string bytes) => bytes.length + 1
  | .lit _ => 1
  | .nil => 1
  | .ptr d => uptoBulk d + 1
  | .slice elems spare => uptoBulkAll elems + uptoBulkAll spare + 1
  | .agg parts => uptoBulkAll parts + 1
  | .iface _ d => uptoBulk d + 1
  | .map entries => uptoBulkEntries entries + 1
  | .held _ => 1
def uptoBulkAll {H : Type} : List (DataW H) → Nat
  | [] => 0
  | d :: r => uptoBulk d + uptoBulkAll r
def uptoBulkEntries {H : Type} : List (Lit × DataW H) → Nat
  | [] => 0
  | x :: r => uptoBulkEntry x + uptoBulkEntries r
def uptoBulkEntry {H : Type} : Lit × DataW H → Nat
  | (.string bytes, d) => bytes.length + uptoBulk d + 1
  | (_, d) => uptoBulk d + 1
 end
def uptoSmall : (H : Type) → List (DataW H) → Bool := fun _ ds => decide (uptoBulkAll ds ≤ 1048576)
def OpenSpec.upto (s : _root_.Go.ChangeSpec) : _root_.Go.OpenSpec := { _root_.Go.OpenSpec.ofChange s with cond := some uptoSmall }

/-- 'winchlaw21.BusHolds', WHERE WHAT IT READS IS OF BULK AT MOST 1048576: true; the input reads as it did. -/
def busHoldsUptoRow : OpenClaim := { program := "ytinicdlpinkmjaa", sum := "ab669c0c5bd37f76fdcfd6fb0ef274cc7f0e7da522a008182c6a25bfaa25aed5", func := "winch/winchlaw21.BusHolds", spec := "busHolds", unfollowed := true, recurses := true, apart := false, narrowed := true }
def BusHoldsUptoSaid : Prop := busHoldsUptoRow.holds Try.pinned (OpenSpec.upto busHoldsSpec)

/-- 'winchlaw21.BusClean', WHERE WHAT IT READS IS OF BULK AT MOST 1048576: true; the input reads as it did. -/
def busCleanUptoRow : OpenClaim := { program := "ytinicdlpinkmjaa", sum := "ab669c0c5bd37f76fdcfd6fb0ef274cc7f0e7da522a008182c6a25bfaa25aed5", func := "winch/winchlaw21.BusClean", spec := "busClean", unfollowed := true, recurses := true, apart := false, narrowed := true }
def BusCleanUptoSaid : Prop := busCleanUptoRow.holds Try.pinned (OpenSpec.upto busCleanSpec)

/-- 'winchlaw21.BusTries', WHERE WHAT IT READS IS OF BULK AT MOST 1048576: true; the input reads as it did. -/
def busTriesUptoRow : OpenClaim := { program := "ytinicdlpinkmjaa", sum := "ab669c0c5bd37f76fdcfd6fb0ef274cc7f0e7da522a008182c6a25bfaa25aed5", func := "winch/winchlaw21.BusTries", spec := "busTries", unfollowed := true, recurses := true, apart := false, narrowed := true }
def BusTriesUptoSaid : Prop := busTriesUptoRow.holds Try.pinned (OpenSpec.upto busTriesSpec)

/-- 'winchlaw21.BusCycles', WHERE WHAT IT READS IS OF BULK AT MOST 1048576: true; the input reads as it did. -/
def busCyclesUptoRow : OpenClaim := { program := "ytinicdlpinkmjaa", sum := "ab669c0c5bd37f76fdcfd6fb0ef274cc7f0e7da522a008182c6a25bfaa25aed5", func := "winch/winchlaw21.BusCycles", spec := "busCycles", unfollowed := true, recurses := true, apart := false, narrowed := true }
def BusCyclesUptoSaid : Prop := busCyclesUptoRow.holds Try.pinned (OpenSpec.upto busCyclesSpec)

/-- 'winchlaw21.BusFrames', WHERE WHAT IT READS IS OF BULK AT MOST 1048576: true; the input reads as it did. -/
def busFramesUptoRow : OpenClaim := { program := "ytinicdlpinkmjaa", sum := "ab669c0c5bd37f76fdcfd6fb0ef274cc7f0e7da522a008182c6a25bfaa25aed5", func := "winch/winchlaw21.BusFrames", spec := "busFrames", unfollowed := true, recurses := true, apart := false, narrowed := true }
def BusFramesUptoSaid : Prop := busFramesUptoRow.holds Try.pinned (OpenSpec.upto busFramesSpec)

/-- 'winchlaw21.BusReads', WHERE WHAT IT READS IS OF BULK AT MOST 1048576: true; the input reads as it did. -/
def busReadsUptoRow : OpenClaim := { program := "ytinicdlpinkmjaa", sum := "ab669c0c5bd37f76fdcfd6fb0ef274cc7f0e7da522a008182c6a25bfaa25aed5", func := "winch/winchlaw21.BusReads", spec := "busReads", unfollowed := true, recurses := true, apart := false, narrowed := true }
def BusReadsUptoSaid : Prop := busReadsUptoRow.holds Try.pinned (OpenSpec.upto busReadsSpec)

/-- 'winchlaw21.BusChanged', WHERE WHAT IT READS IS OF BULK AT MOST 1048576: true; the input reads as it did. -/
def busChangedUptoRow : OpenClaim := { program := "ytinicdlpinkmjaa", sum := "ab669c0c5bd37f76fdcfd6fb0ef274cc7f0e7da522a008182c6a25bfaa25aed5", func := "winch/winchlaw21.BusChanged", spec := "busChanged", unfollowed := true, recurses := true, apart := false, narrowed := true }
def BusChangedUptoSaid : Prop := busChangedUptoRow.holds Try.pinned (OpenSpec.upto busChangedSpec)

end Rows
end Go.Proofs.Ytinicdlpinkmjaa
