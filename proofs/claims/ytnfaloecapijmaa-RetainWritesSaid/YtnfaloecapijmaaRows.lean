/-
  No cell of these rows narrows 'for every input' (looked for: loops, veiled, ifaces, maps, wideKeys, modest, calm, conditions, laid).
  DERIVED. THE GIVEN ROWS OF THIS SEAT. 6 by the template 'for every input the law returns true; each argument reads behind the call as it read before'; 0 by the template 'total and deterministic' (their statements: YtnfaloecapijmaaTotals.lean).
  GIVEN WITH THE SEED: the statements are not yours to turn. If you find one false, say at which input.
  Laid BY PROGRAM, IN A SANDBOX (cutbox-rows.mjs): the forced cells as the released guide's own fill.sh prints them over the translation 188487b7466b6eb0… (all of the seat's roots in one cut). By AI agents, Wed Nov 11 2026. No macro, syntax, notation, axiom, sorry.
-/
import Derived.Test.YtnfaloecapijmaaChecked
import GoSem.Claim
import GoSem.ClaimJoined
import GoSem.ClaimMapViews
import Derived.JoinedTies
import Derived.KernelRfl
namespace Go.Proofs.Ytnfaloecapijmaa
/- THE CELL 'sum', in the pinned program and in every row, IS THE sha256 OF THE DUMP (.gsa) THAT YtnfaloecapijmaaProg.lean LOADS. Nothing in Lean hashes anything: it is a label: what it is worth is what the hold of that sum in a sandbox is worth. -/
noncomputable def Try.pinned : Pinned := { name := "ytnfaloecapijmaa", sum := "188487b7466b6eb00bd57969360fceae8d434be1970f883aca0939c309563dc3", checked := Try.checked }
namespace Rows
def none {H : Type} : Left H := { results := [], args := [] }

/-- 'winchlaw23.RetainSaves': WHATEVER THE INPUT: true; the input reads as it did. -/
def retainSavesSpec : ChangeSpec := { name := "retainSaves", fn := fun _ => fun
  | [d1, d2] => { results := [.lit (.bool true)], args := [d1, d2] }
  | _ => none }
def retainSavesRow : OpenClaim := { program := "ytnfaloecapijmaa", sum := "188487b7466b6eb00bd57969360fceae8d434be1970f883aca0939c309563dc3", func := "winch/winchlaw23.RetainSaves", spec := "retainSaves", unfollowed := true, recurses := true, apart := false }
def RetainSavesSaid : Prop := retainSavesRow.holds Try.pinned (OpenSpec.ofChange retainSavesSpec)

/-- ITS FALSE NEIGHBOUR: 'it returns false'. Refute it at one input. -/
def retainSavesWrong : ChangeSpec := { name := "retainSaves", fn := fun _ => fun
  | [d1, d2] => { results := [.lit (.bool false)], args := [d1, d2] }
  | _ => none }
def RetainSavesWrongFalsely : Prop := retainSavesRow.holds Try.pinned (OpenSpec.ofChange retainSavesWrong)

/-- 'winchlaw23.RetainWhole': WHATEVER THE INPUT: true; the input reads as it did. -/
def retainWholeSpec : ChangeSpec := { name := "retainWhole", fn := fun _ => fun
  | [d1, d2] => { results := [.lit (.bool true)], args := [d1, d2] }
  | _ => none }
def retainWholeRow : OpenClaim := { program := "ytnfaloecapijmaa", sum := "188487b7466b6eb00bd57969360fceae8d434be1970f883aca0939c309563dc3", func := "winch/winchlaw23.RetainWhole", spec := "retainWhole", unfollowed := true, recurses := true, apart := false }
def RetainWholeSaid : Prop := retainWholeRow.holds Try.pinned (OpenSpec.ofChange retainWholeSpec)

/-- ITS FALSE NEIGHBOUR: 'it returns false'. Refute it at one input. -/
def retainWholeWrong : ChangeSpec := { name := "retainWhole", fn := fun _ => fun
  | [d1, d2] => { results := [.lit (.bool false)], args := [d1, d2] }
  | _ => none }
def RetainWholeWrongFalsely : Prop := retainWholeRow.holds Try.pinned (OpenSpec.ofChange retainWholeWrong)

/-- 'winchlaw23.RetainWrites': WHATEVER THE INPUT: true; the input reads as it did. -/
def retainWritesSpec : ChangeSpec := { name := "retainWrites", fn := fun _ => fun
  | [d1, d2, d3] => { results := [.lit (.bool true)], args := [d1, d2, d3] }
  | _ => none }
def retainWritesRow : OpenClaim := { program := "ytnfaloecapijmaa", sum := "188487b7466b6eb00bd57969360fceae8d434be1970f883aca0939c309563dc3", func := "winch/winchlaw23.RetainWrites", spec := "retainWrites", unfollowed := true, recurses := true, apart := false }
def RetainWritesSaid : Prop := retainWritesRow.holds Try.pinned (OpenSpec.ofChange retainWritesSpec)

/-- ITS FALSE NEIGHBOUR: 'it returns false'. Refute it at one input. -/
def retainWritesWrong : ChangeSpec := { name := "retainWrites", fn := fun _ => fun
  | [d1, d2, d3] => { results := [.lit (.bool false)], args := [d1, d2, d3] }
  | _ => none }
def RetainWritesWrongFalsely : Prop := retainWritesRow.holds Try.pinned (OpenSpec.ofChange retainWritesWrong)

/-- 'winchlaw23.RetainTorn': WHATEVER THE INPUT: true; the input reads as it did. -/
def retainTornSpec : ChangeSpec := { name := "retainTorn", fn := fun _ => fun
  | [d1, d2, d3] => { results := [.lit (.bool true)], args := [d1, d2, d3] }
  | _ => none }
def retainTornRow : OpenClaim := { program := "ytnfaloecapijmaa", sum := "188487b7466b6eb00bd57969360fceae8d434be1970f883aca0939c309563dc3", func := "winch/winchlaw23.RetainTorn", spec := "retainTorn", unfollowed := true, recurses := true, apart := false }
def RetainTornSaid : Prop := retainTornRow.holds Try.pinned (OpenSpec.ofChange retainTornSpec)

/-- ITS FALSE NEIGHBOUR: 'it returns false'. Refute it at one input. -/
def retainTornWrong : ChangeSpec := { name := "retainTorn", fn := fun _ => fun
  | [d1, d2, d3] => { results := [.lit (.bool false)], args := [d1, d2, d3] }
  | _ => none }
def RetainTornWrongFalsely : Prop := retainTornRow.holds Try.pinned (OpenSpec.ofChange retainTornWrong)

/-- 'winchlaw23.RetainAgain': WHATEVER THE INPUT: true; the input reads as it did. -/
def retainAgainSpec : ChangeSpec := { name := "retainAgain", fn := fun _ => fun
  | [d] => { results := [.lit (.bool true)], args := [d] }
  | _ => none }
def retainAgainRow : OpenClaim := { program := "ytnfaloecapijmaa", sum := "188487b7466b6eb00bd57969360fceae8d434be1970f883aca0939c309563dc3", func := "winch/winchlaw23.RetainAgain", spec := "retainAgain", unfollowed := true, recurses := true, apart := false }
def RetainAgainSaid : Prop := retainAgainRow.holds Try.pinned (OpenSpec.ofChange retainAgainSpec)

/-- ITS FALSE NEIGHBOUR: 'it returns false'. Refute it at one input. -/
def retainAgainWrong : ChangeSpec := { name := "retainAgain", fn := fun _ => fun
  | [d] => { results := [.lit (.bool false)], args := [d] }
  | _ => none }
def RetainAgainWrongFalsely : Prop := retainAgainRow.holds Try.pinned (OpenSpec.ofChange retainAgainWrong)

/-- 'winchlaw23.RetainLoads': WHATEVER THE INPUT: true; the input reads as it did. -/
def retainLoadsSpec : ChangeSpec := { name := "retainLoads", fn := fun _ => fun
  | [d1, d2, d3] => { results := [.lit (.bool true)], args := [d1, d2, d3] }
  | _ => none }
def retainLoadsRow : OpenClaim := { program := "ytnfaloecapijmaa", sum := "188487b7466b6eb00bd57969360fceae8d434be1970f883aca0939c309563dc3", func := "winch/winchlaw23.RetainLoads", spec := "retainLoads", unfollowed := true, recurses := true, apart := false }
def RetainLoadsSaid : Prop := retainLoadsRow.holds Try.pinned (OpenSpec.ofChange retainLoadsSpec)

/-- ITS FALSE NEIGHBOUR: 'it returns false'. Refute it at one input. -/
def retainLoadsWrong : ChangeSpec := { name := "retainLoads", fn := fun _ => fun
  | [d1, d2, d3] => { results := [.lit (.bool false)], args := [d1, d2, d3] }
  | _ => none }
def RetainLoadsWrongFalsely : Prop := retainLoadsRow.holds Try.pinned (OpenSpec.ofChange retainLoadsWrong)

/- THE SECOND FORM. 'bulk': how many values and letters a reading holds, each counted each time it is reached (what is shared counts as often as it is met; a slice's spare places count too). A statement '..UptoSaid' is the law's where the arguments, and the package variables that the reading takes, are together of bulk at most 1048576: NARROWER than '..Said'. Prove '..Said' where nothing that the law and all that it calls make is longer than what came in: it says more and counts as full. Else prove '..UptoSaid'. A law counts once. -/
mutual
def uptoBulk {H : Type} : DataW H → Nat
  | .lit (.string bytes) => bytes.length + 1
  | .lit _ => 1
  | .nil => 1
  | .ptr d => uptoBulk d + 1
  | .slice elems spare => uptoBulkAll elems + uptoBulkAll spare + 1
  | .agg parts => uptoBulkAll parts + 1
  | .iface _ d => uptoBulk d + 1
  | .map entries => uptoBulkEntries entries + 1
  | .held _ => 1
def uptoBulkAll {H : Type} : List (DataW H) → Nat
  | [] => 0
  | d :: r => uptoBulk d + uptoBulkAll r
def uptoBulkEntries {H : Type} : List (Lit × DataW H) → Nat
  | [] => 0
  | x :: r => uptoBulkEntry x + uptoBulkEntries r
def uptoBulkEntry {H : Type} : Lit × DataW H → Nat
  | (.string bytes, d) => bytes.length + uptoBulk d + 1
  | (_, d) => uptoBulk d + 1
 end
def uptoSmall : (H : Type) → List (DataW H) → Bool := fun _ ds => decide (uptoBulkAll ds ≤ 1048576)
def OpenSpec.upto (s : _root_.Go.ChangeSpec) : _root_.Go.OpenSpec := { _root_.Go.OpenSpec.ofChange s with cond := some uptoSmall }

/-- 'winchlaw23.RetainSaves', WHERE WHAT IT READS IS OF BULK AT MOST 1048576: true; the input reads as it did. -/
def retainSavesUptoRow : OpenClaim := { program := "ytnfaloecapijmaa", sum := "188487b7466b6eb00bd57969360fceae8d434be1970f883aca0939c309563dc3", func := "winch/winchlaw23.RetainSaves", spec := "retainSaves", unfollowed := true, recurses := true, apart := false, narrowed := true }
def RetainSavesUptoSaid : Prop := retainSavesUptoRow.holds Try.pinned (OpenSpec.upto retainSavesSpec)

/-- 'winchlaw23.RetainWhole', WHERE WHAT IT READS IS OF BULK AT MOST 1048576: true; the input reads as it did. -/
def retainWholeUptoRow : OpenClaim := { program := "ytnfaloecapijmaa", sum := "188487b7466b6eb00bd57969360fceae8d434be1970f883aca0939c309563dc3", func := "winch/winchlaw23.RetainWhole", spec := "retainWhole", unfollowed := true, recurses := true, apart := false, narrowed := true }
def RetainWholeUptoSaid : Prop := retainWholeUptoRow.holds Try.pinned (OpenSpec.upto retainWholeSpec)

/-- 'winchlaw23.RetainWrites', WHERE WHAT IT READS IS OF BULK AT MOST 1048576: true; the input reads as it did. -/
def retainWritesUptoRow : OpenClaim := { program := "ytnfaloecapijmaa", sum := "188487b7466b6eb00bd57969360fceae8d434be1970f883aca0939c309563dc3", func := "winch/winchlaw23.RetainWrites", spec := "retainWrites", unfollowed := true, recurses := true, apart := false, narrowed := true }
def RetainWritesUptoSaid : Prop := retainWritesUptoRow.holds Try.pinned (OpenSpec.upto retainWritesSpec)

/-- 'winchlaw23.RetainTorn', WHERE WHAT IT READS IS OF BULK AT MOST 1048576: true; the input reads as it did. -/
def retainTornUptoRow : OpenClaim := { program := "ytnfaloecapijmaa", sum := "188487b7466b6eb00bd57969360fceae8d434be1970f883aca0939c309563dc3", func := "winch/winchlaw23.RetainTorn", spec := "retainTorn", unfollowed := true, recurses := true, apart := false, narrowed := true }
def RetainTornUptoSaid : Prop := retainTornUptoRow.holds Try.pinned (OpenSpec.upto retainTornSpec)

/-- 'winchlaw23.RetainAgain', WHERE WHAT IT READS IS OF BULK AT MOST 1048576: true; the input reads as it did. -/
def retainAgainUptoRow : OpenClaim := { program := "ytnfaloecapijmaa", sum := "188487b7466b6eb00bd57969360fceae8d434be1970f883aca0939c309563dc3", func := "winch/winchlaw23.RetainAgain", spec := "retainAgain", unfollowed := true, recurses := true, apart := false, narrowed := true }
def RetainAgainUptoSaid : Prop := retainAgainUptoRow.holds Try.pinned (OpenSpec.upto retainAgainSpec)

/-- 'winchlaw23.RetainLoads', WHERE WHAT IT READS IS OF BULK AT MOST 1048576: true; the input reads as it did. -/
def retainLoadsUptoRow : OpenClaim := { program := "ytnfaloecapijmaa", sum := "188487b7466b6eb00bd57969360fceae8d434be1970f883aca0939c309563dc3", func := "winch/winchlaw23.RetainLoads", spec := "retainLoads", unfollowed := true, recurses := true, apart := false, narrowed := true }
def RetainLoadsUptoSaid : Prop := retainLoadsUptoRow.holds Try.pinned (OpenSpec.upto retainLoadsSpec)

end Rows
end Go.Proofs.Ytnfaloecapijmaa
