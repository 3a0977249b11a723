/-
  No cell of these rows narrows 'for every input' (looked for: loops, veiled, ifaces, maps, wideKeys, modest, calm, conditions, laid).
  DERIVED. THE GIVEN ROWS OF THIS SEAT. 7 by the template 'for every input the law returns true; each argument reads behind the call as it read before'; 0 by the template 'total and deterministic' (their statements: YtcbegnfjieamdaaTotals.lean).
  GIVEN WITH THE SEED: the statements are not yours to turn. If you find one false, say at which input.
  Laid BY PROGRAM, IN A SANDBOX (cutbox-rows.mjs): the forced cells as the released guide's own fill.sh prints them over the translation 43e99e9921861806… (all of the seat's roots in one cut). By AI agents, Wed Nov 11 2026. No macro, syntax, notation, axiom, sorry.
-/
import Derived.Test.YtcbegnfjieamdaaChecked
import GoSem.Claim
import GoSem.ClaimJoined
import GoSem.ClaimMapViews
import Derived.JoinedTies
import Derived.KernelRfl
namespace Go.Proofs.Ytcbegnfjieamdaa
/- THE CELL 'sum', in the pinned program and in every row, IS THE sha256 OF THE DUMP (.gsa) THAT YtcbegnfjieamdaaProg.lean LOADS. Nothing in Lean hashes anything: it is a label: what it is worth is what the hold of that sum in a sandbox is worth. -/
noncomputable def Try.pinned : Pinned := { name := "ytcbegnfjieamdaa", sum := "43e99e9921861806a400329ff098f8ca795e923b45e1492bff449ea656374e4a", checked := Try.checked }
namespace Rows
def none {H : Type} : Left H := { results := [], args := [] }

/-- 'winchlaw22.TaskSteps': WHATEVER THE INPUT: true; the input reads as it did. -/
def taskStepsSpec : ChangeSpec := { name := "taskSteps", fn := fun _ => fun
  | [d1, d2, d3] => { results := [.lit (.bool true)], args := [d1, d2, d3] }
  | _ => none }
def taskStepsRow : OpenClaim := { program := "ytcbegnfjieamdaa", sum := "43e99e9921861806a400329ff098f8ca795e923b45e1492bff449ea656374e4a", func := "winch/winchlaw22.TaskSteps", spec := "taskSteps", unfollowed := true, recurses := true, apart := false }
def TaskStepsSaid : Prop := taskStepsRow.holds Try.pinned (OpenSpec.ofChange taskStepsSpec)

/-- ITS FALSE NEIGHBOUR: 'it returns false'. Refute it at one input. -/
def taskStepsWrong : ChangeSpec := { name := "taskSteps", fn := fun _ => fun
  | [d1, d2, d3] => { results := [.lit (.bool false)], args := [d1, d2, d3] }
  | _ => none }
def TaskStepsWrongFalsely : Prop := taskStepsRow.holds Try.pinned (OpenSpec.ofChange taskStepsWrong)

/-- 'winchlaw22.TaskPlans': WHATEVER THE INPUT: true; the input reads as it did. -/
def taskPlansSpec : ChangeSpec := { name := "taskPlans", fn := fun _ => fun
  | [d1, d2, d3] => { results := [.lit (.bool true)], args := [d1, d2, d3] }
  | _ => none }
def taskPlansRow : OpenClaim := { program := "ytcbegnfjieamdaa", sum := "43e99e9921861806a400329ff098f8ca795e923b45e1492bff449ea656374e4a", func := "winch/winchlaw22.TaskPlans", spec := "taskPlans", unfollowed := true, recurses := true, apart := false }
def TaskPlansSaid : Prop := taskPlansRow.holds Try.pinned (OpenSpec.ofChange taskPlansSpec)

/-- ITS FALSE NEIGHBOUR: 'it returns false'. Refute it at one input. -/
def taskPlansWrong : ChangeSpec := { name := "taskPlans", fn := fun _ => fun
  | [d1, d2, d3] => { results := [.lit (.bool false)], args := [d1, d2, d3] }
  | _ => none }
def TaskPlansWrongFalsely : Prop := taskPlansRow.holds Try.pinned (OpenSpec.ofChange taskPlansWrong)

/-- 'winchlaw22.TaskOrder': WHATEVER THE INPUT: true; the input reads as it did. -/
def taskOrderSpec : ChangeSpec := { name := "taskOrder", fn := fun _ => fun
  | [d1, d2, d3] => { results := [.lit (.bool true)], args := [d1, d2, d3] }
  | _ => none }
def taskOrderRow : OpenClaim := { program := "ytcbegnfjieamdaa", sum := "43e99e9921861806a400329ff098f8ca795e923b45e1492bff449ea656374e4a", func := "winch/winchlaw22.TaskOrder", spec := "taskOrder", unfollowed := true, recurses := true, apart := false }
def TaskOrderSaid : Prop := taskOrderRow.holds Try.pinned (OpenSpec.ofChange taskOrderSpec)

/-- ITS FALSE NEIGHBOUR: 'it returns false'. Refute it at one input. -/
def taskOrderWrong : ChangeSpec := { name := "taskOrder", fn := fun _ => fun
  | [d1, d2, d3] => { results := [.lit (.bool false)], args := [d1, d2, d3] }
  | _ => none }
def TaskOrderWrongFalsely : Prop := taskOrderRow.holds Try.pinned (OpenSpec.ofChange taskOrderWrong)

/-- 'winchlaw22.TaskTimes': WHATEVER THE INPUT: true; the input reads as it did. -/
def taskTimesSpec : ChangeSpec := { name := "taskTimes", fn := fun _ => fun
  | [d1, d2, d3] => { results := [.lit (.bool true)], args := [d1, d2, d3] }
  | _ => none }
def taskTimesRow : OpenClaim := { program := "ytcbegnfjieamdaa", sum := "43e99e9921861806a400329ff098f8ca795e923b45e1492bff449ea656374e4a", func := "winch/winchlaw22.TaskTimes", spec := "taskTimes", unfollowed := true, recurses := true, apart := false }
def TaskTimesSaid : Prop := taskTimesRow.holds Try.pinned (OpenSpec.ofChange taskTimesSpec)

/-- ITS FALSE NEIGHBOUR: 'it returns false'. Refute it at one input. -/
def taskTimesWrong : ChangeSpec := { name := "taskTimes", fn := fun _ => fun
  | [d1, d2, d3] => { results := [.lit (.bool false)], args := [d1, d2, d3] }
  | _ => none }
def TaskTimesWrongFalsely : Prop := taskTimesRow.holds Try.pinned (OpenSpec.ofChange taskTimesWrong)

/-- 'winchlaw22.TaskMany': WHATEVER THE INPUT: true; the input reads as it did. -/
def taskManySpec : ChangeSpec := { name := "taskMany", fn := fun _ => fun
  | [d1, d2] => { results := [.lit (.bool true)], args := [d1, d2] }
  | _ => none }
def taskManyRow : OpenClaim := { program := "ytcbegnfjieamdaa", sum := "43e99e9921861806a400329ff098f8ca795e923b45e1492bff449ea656374e4a", func := "winch/winchlaw22.TaskMany", spec := "taskMany", unfollowed := true, recurses := true, apart := false }
def TaskManySaid : Prop := taskManyRow.holds Try.pinned (OpenSpec.ofChange taskManySpec)

/-- ITS FALSE NEIGHBOUR: 'it returns false'. Refute it at one input. -/
def taskManyWrong : ChangeSpec := { name := "taskMany", fn := fun _ => fun
  | [d1, d2] => { results := [.lit (.bool false)], args := [d1, d2] }
  | _ => none }
def TaskManyWrongFalsely : Prop := taskManyRow.holds Try.pinned (OpenSpec.ofChange taskManyWrong)

/-- 'winchlaw22.TaskBounds': WHATEVER THE INPUT: true; the input reads as it did. -/
def taskBoundsSpec : ChangeSpec := { name := "taskBounds", fn := fun _ => fun
  | [d1, d2, d3] => { results := [.lit (.bool true)], args := [d1, d2, d3] }
  | _ => none }
def taskBoundsRow : OpenClaim := { program := "ytcbegnfjieamdaa", sum := "43e99e9921861806a400329ff098f8ca795e923b45e1492bff449ea656374e4a", func := "winch/winchlaw22.TaskBounds", spec := "taskBounds", unfollowed := true, recurses := true, apart := false }
def TaskBoundsSaid : Prop := taskBoundsRow.holds Try.pinned (OpenSpec.ofChange taskBoundsSpec)

/-- ITS FALSE NEIGHBOUR: 'it returns false'. Refute it at one input. -/
def taskBoundsWrong : ChangeSpec := { name := "taskBounds", fn := fun _ => fun
  | [d1, d2, d3] => { results := [.lit (.bool false)], args := [d1, d2, d3] }
  | _ => none }
def TaskBoundsWrongFalsely : Prop := taskBoundsRow.holds Try.pinned (OpenSpec.ofChange taskBoundsWrong)

/-- 'winchlaw22.TaskNumbers': WHATEVER THE INPUT: true; the input reads as it did. -/
def taskNumbersSpec : ChangeSpec := { name := "taskNumbers", fn := fun _ => fun
  | [d1, d2, d3] => { results := [.lit (.bool true)], args := [d1, d2, d3] }
  | _ => none }
def taskNumbersRow : OpenClaim := { program := "ytcbegnfjieamdaa", sum := "43e99e9921861806a400329ff098f8ca795e923b45e1492bff449ea656374e4a", func := "winch/winchlaw22.TaskNumbers", spec := "taskNumbers", unfollowed := true, recurses := true, apart := false }
def TaskNumbersSaid : Prop := taskNumbersRow.holds Try.pinned (OpenSpec.ofChange taskNumbersSpec)

/-- ITS FALSE NEIGHBOUR: 'it returns false'. Refute it at one input. -/
def taskNumbersWrong : ChangeSpec := { name := "taskNumbers", fn := fun _ => fun
  | [d1, d2, d3] => { results := [.lit (.bool false)], args := [d1, d2, d3] }
  | _ => none }
def TaskNumbersWrongFalsely : Prop := taskNumbersRow.holds Try.pinned (OpenSpec.ofChange taskNumbersWrong)

/- THE SECOND FORM. 'bulk': how many values and letters a reading holds, each counted each time it is reached (what is shared counts as often as it is met; a slice's spare places count too). A statement '..UptoSaid' is the law's where the arguments, and the package variables that the reading takes, are together of bulk at most 1048576: NARROWER than '..Said'. Prove '..Said' where nothing that the law and all that it calls make is longer than what came in: it says more and counts as full. Else prove '..UptoSaid'. A law counts once. -/
mutual
def uptoBulk {H : Type} : DataW H → Nat
  | .lit (.string bytes) => bytes.length + 1
  | .lit _ => 1
  | .nil => 1
  | .ptr d => uptoBulk d + 1
  | .slice elems spare => uptoBulkAll elems + uptoBulkAll spare + 1
  | .agg parts => uptoBulkAll parts + 1
  | .iface _ d => uptoBulk d + 1
  | .map entries => uptoBulkEntries entries + 1
  | .held _ => 1
def uptoBulkAll {H : Type} : List (DataW H) → Nat
  | [] => 0
  | d :: r => uptoBulk d + uptoBulkAll r
def uptoBulkEntries {H : Type} : List (Lit × DataW H) → Nat
  | [] => 0
  | x :: r => uptoBulkEntry x + uptoBulkEntries r
def uptoBulkEntry {H : Type} : Lit × DataW H → Nat
  | (.string bytes, d) => bytes.length + uptoBulk d + 1
  | (_, d) => uptoBulk d + 1
 end
def uptoSmall : (H : Type) → List (DataW H) → Bool := fun _ ds => decide (uptoBulkAll ds ≤ 1048576)
def OpenSpec.upto (s : _root_.Go.ChangeSpec) : _root_.Go.OpenSpec := { _root_.Go.OpenSpec.ofChange s with cond := some uptoSmall }

/-- 'winchlaw22.TaskSteps', WHERE WHAT IT READS IS OF BULK AT MOST 1048576: true; the input reads as it did. -/
def taskStepsUptoRow : OpenClaim := { program := "ytcbegnfjieamdaa", sum := "43e99e9921861806a400329ff098f8ca795e923b45e1492bff449ea656374e4a", func := "winch/winchlaw22.TaskSteps", spec := "taskSteps", unfollowed := true, recurses := true, apart := false, narrowed := true }
def TaskStepsUptoSaid : Prop := taskStepsUptoRow.holds Try.pinned (OpenSpec.upto taskStepsSpec)

/-- 'winchlaw22.TaskPlans', WHERE WHAT IT READS IS OF BULK AT MOST 1048576: true; the input reads as it did. -/
def taskPlansUptoRow : OpenClaim := { program := "ytcbegnfjieamdaa", sum := "43e99e9921861806a400329ff098f8ca795e923b45e1492bff449ea656374e4a", func := "winch/winchlaw22.TaskPlans", spec := "taskPlans", unfollowed := true, recurses := true, apart := false, narrowed := true }
def TaskPlansUptoSaid : Prop := taskPlansUptoRow.holds Try.pinned (OpenSpec.upto taskPlansSpec)

/-- 'winchlaw22.TaskOrder', WHERE WHAT IT READS IS OF BULK AT MOST 1048576: true; the input reads as it did. -/
def taskOrderUptoRow : OpenClaim := { program := "ytcbegnfjieamdaa", sum := "43e99e9921861806a400329ff098f8ca795e923b45e1492bff449ea656374e4a", func := "winch/winchlaw22.TaskOrder", spec := "taskOrder", unfollowed := true, recurses := true, apart := false, narrowed := true }
def TaskOrderUptoSaid : Prop := taskOrderUptoRow.holds Try.pinned (OpenSpec.upto taskOrderSpec)

/-- 'winchlaw22.TaskTimes', WHERE WHAT IT READS IS OF BULK AT MOST 1048576: true; the input reads as it did. -/
def taskTimesUptoRow : OpenClaim := { program := "ytcbegnfjieamdaa", sum := "43e99e9921861806a400329ff098f8ca795e923b45e1492bff449ea656374e4a", func := "winch/winchlaw22.TaskTimes", spec := "taskTimes", unfollowed := true, recurses := true, apart := false, narrowed := true }
def TaskTimesUptoSaid : Prop := taskTimesUptoRow.holds Try.pinned (OpenSpec.upto taskTimesSpec)

/-- 'winchlaw22.TaskMany', WHERE WHAT IT READS IS OF BULK AT MOST 1048576: true; the input reads as it did. -/
def taskManyUptoRow : OpenClaim := { program := "ytcbegnfjieamdaa", sum := "43e99e9921861806a400329ff098f8ca795e923b45e1492bff449ea656374e4a", func := "winch/winchlaw22.TaskMany", spec := "taskMany", unfollowed := true, recurses := true, apart := false, narrowed := true }
def TaskManyUptoSaid : Prop := taskManyUptoRow.holds Try.pinned (OpenSpec.upto taskManySpec)

/-- 'winchlaw22.TaskBounds', WHERE WHAT IT READS IS OF BULK AT MOST 1048576: true; the input reads as it did. -/
def taskBoundsUptoRow : OpenClaim := { program := "ytcbegnfjieamdaa", sum := "43e99e9921861806a400329ff098f8ca795e923b45e1492bff449ea656374e4a", func := "winch/winchlaw22.TaskBounds", spec := "taskBounds", unfollowed := true, recurses := true, apart := false, narrowed := true }
def TaskBoundsUptoSaid : Prop := taskBoundsUptoRow.holds Try.pinned (OpenSpec.upto taskBoundsSpec)

/-- 'winchlaw22.TaskNumbers', WHERE WHAT IT READS IS OF BULK AT MOST 1048576: true; the input reads as it did. -/
def taskNumbersUptoRow : OpenClaim := { program := "ytcbegnfjieamdaa", sum := "43e99e9921861806a400329ff098f8ca795e923b45e1492bff449ea656374e4a", func := "winch/winchlaw22.TaskNumbers", spec := "taskNumbers", unfollowed := true, recurses := true, apart := false, narrowed := true }
def TaskNumbersUptoSaid : Prop := taskNumbersUptoRow.holds Try.pinned (OpenSpec.upto taskNumbersSpec)

end Rows
end Go.Proofs.Ytcbegnfjieamdaa
