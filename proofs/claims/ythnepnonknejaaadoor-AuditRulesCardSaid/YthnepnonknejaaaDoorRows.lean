/-
  NARROWER THAN 'FOR EVERY INPUT', by the rows' own cells (each row's printed sentence says how): AuditRules: laid · AuditNumbers: laid.
  DERIVED. THE GIVEN ROWS OF THIS SEAT. 2 by the template 'for every input the law returns true; each argument reads behind the call as it read before'; 0 by the template 'total and deterministic' (their statements: YthnepnonknejaaaDoorTotals.lean).
  GIVEN WITH THE SEED: the statements are not yours to turn. If you find one false, say at which input.
  Laid BY PROGRAM, IN A SANDBOX (cutbox-rows.mjs): the forced cells as the released guide's own fill.sh prints them over the translation 899ec7ebe15613c6… (all of the seat's roots in one cut). By AI agents, Wed Nov 11 2026. No macro, syntax, notation, axiom, sorry.
-/
import Derived.Test.YthnepnonknejaaaDoorChecked
import GoSem.Claim
import GoSem.ClaimJoined
import GoSem.ClaimMapViews
import Derived.JoinedTies
import Derived.KernelRfl
namespace Go.Proofs.YthnepnonknejaaaDoor
/- THE CELL 'sum', in the pinned program and in every row, IS THE sha256 OF THE DUMP (.gsa) THAT YthnepnonknejaaaDoorProg.lean LOADS. Nothing in Lean hashes anything: it is a label: what it is worth is what the hold of that sum in a sandbox is worth. -/
noncomputable def Tryd.pinned : Pinned := { name := "ythnepnonknejaaadoor", sum := "899ec7ebe15613c6e24b7e3ac025e2c50acd8c51611ff91c33badcbed3280bf0", checked := Tryd.checked }
namespace Rows
def none {H : Type} : Left H := { results := [], args := [] }

/- WHAT THE LISTED PACKAGE-LEVEL VARIABLES READ AS WHEN THE CALL BEGINS. Each datum BY PROGRAM (the guide's laid-datum.mjs) off the statement by which the dump's own 'gosem.cut.vars' lays the variable. In a bare row this is a premise. The card (YthnepnonknejaaaDoorCards.lean) ties it to the program's text. -/
def laid_winch_trace_names {H : Type} : DataW H := .agg [.lit (.string []), .lit (.string [106, 111, 98]), .lit (.string [115, 116, 97, 114, 116]), .lit (.string [115, 116, 111, 112]), .lit (.string [112, 111, 119, 101, 114]), .lit (.string [102, 111, 114, 99, 101]), .lit (.string [102, 114, 101, 101]), .lit (.string [99, 104, 97, 110, 103, 101])]

/-- 'winchlaw30.AuditRules': WHATEVER THE INPUT: true; the input reads as it did. -/
def auditRulesSpec : ChangeSpec := { name := "auditRules", fn := fun _ => fun
  | [d] => { results := [.lit (.bool true)], args := [d] }
  | _ => none }
def auditRulesRow : OpenClaim := { program := "ythnepnonknejaaadoor", sum := "899ec7ebe15613c6e24b7e3ac025e2c50acd8c51611ff91c33badcbed3280bf0", func := "winch/winchlaw30.AuditRules", spec := "auditRules", unfollowed := true, recurses := true, named := ["winch/trace.names"], apart := false, laid := [("winch/trace.names", laid_winch_trace_names)] }
def AuditRulesSaid : Prop := auditRulesRow.holds Tryd.pinned (OpenSpec.ofChange auditRulesSpec)

/-- ITS FALSE NEIGHBOUR: 'it returns false'. Refute it at one input. -/
def auditRulesWrong : ChangeSpec := { name := "auditRules", fn := fun _ => fun
  | [d] => { results := [.lit (.bool false)], args := [d] }
  | _ => none }
def AuditRulesWrongFalsely : Prop := auditRulesRow.holds Tryd.pinned (OpenSpec.ofChange auditRulesWrong)

/-- 'winchlaw30.AuditNumbers': WHATEVER THE INPUT: true; the input reads as it did. -/
def auditNumbersSpec : ChangeSpec := { name := "auditNumbers", fn := fun _ => fun
  | [d1, d2, d3] => { results := [.lit (.bool true)], args := [d1, d2, d3] }
  | _ => none }
def auditNumbersRow : OpenClaim := { program := "ythnepnonknejaaadoor", sum := "899ec7ebe15613c6e24b7e3ac025e2c50acd8c51611ff91c33badcbed3280bf0", func := "winch/winchlaw30.AuditNumbers", spec := "auditNumbers", unfollowed := true, recurses := true, named := ["winch/trace.names"], apart := false, laid := [("winch/trace.names", laid_winch_trace_names)] }
def AuditNumbersSaid : Prop := auditNumbersRow.holds Tryd.pinned (OpenSpec.ofChange auditNumbersSpec)

/-- ITS FALSE NEIGHBOUR: 'it returns false'. Refute it at one input. -/
def auditNumbersWrong : ChangeSpec := { name := "auditNumbers", fn := fun _ => fun
  | [d1, d2, d3] => { results := [.lit (.bool false)], args := [d1, d2, d3] }
  | _ => none }
def AuditNumbersWrongFalsely : Prop := auditNumbersRow.holds Tryd.pinned (OpenSpec.ofChange auditNumbersWrong)

/- THE SECOND FORM. 'bulk': how many values and letters a reading holds, each counted each time it is reached (what is shared counts as often as it is met; a slice's spare places count too). A statement '..UptoSaid' is the law's where the arguments, and the package variables that the reading takes, are together of bulk at most 1048576: NARROWER than '..Said'. Prove '..Said' where nothing that the law and all that it calls make is longer than what came in: it says more and counts as full. Else prove '..UptoSaid'. A law counts once. -/
mutual
def uptoBulk {H : Type} : DataW H → Nat
  | .lit (.string bytes) => bytes.length + 1
  | .lit _ => 1
  | .nil => 1
  | .ptr d => uptoBulk d + 1
  | .slice elems spare => uptoBulkAll elems + uptoBulkAll spare + 1
  | .agg parts => uptoBulkAll parts + 1
  | .iface _ d => uptoBulk d + 1
  | .map entries => uptoBulkEntries entries + 1
  | .held _ => 1
def uptoBulkAll {H : Type} : List (DataW H) → Nat
  | [] => 0
  | d :: r => uptoBulk d + uptoBulkAll r
def uptoBulkEntries {H : Type} : List (Lit × DataW H) → Nat
  | [] => 0
  | x :: r => uptoBulkEntry x + uptoBulkEntries r
def uptoBulkEntry {H : Type} : Lit × DataW H → Nat
  | (.string bytes, d) => bytes.length + uptoBulk d + 1
  | (_, d) => uptoBulk d + 1
 end
def uptoSmall : (H : Type) → List (DataW H) → Bool := fun _ ds => decide (uptoBulkAll ds ≤ 1048576)
def OpenSpec.upto (s : _root_.Go.ChangeSpec) : _root_.Go.OpenSpec := { _root_.Go.OpenSpec.ofChange s with cond := some uptoSmall }

/-- 'winchlaw30.AuditRules', WHERE WHAT IT READS IS OF BULK AT MOST 1048576: true; the input reads as it did. -/
def auditRulesUptoRow : OpenClaim := { program := "ythnepnonknejaaadoor", sum := "899ec7ebe15613c6e24b7e3ac025e2c50acd8c51611ff91c33badcbed3280bf0", func := "winch/winchlaw30.AuditRules", spec := "auditRules", unfollowed := true, recurses := true, named := ["winch/trace.names"], apart := false, laid := [("winch/trace.names", laid_winch_trace_names)], narrowed := true }
def AuditRulesUptoSaid : Prop := auditRulesUptoRow.holds Tryd.pinned (OpenSpec.upto auditRulesSpec)

/-- 'winchlaw30.AuditNumbers', WHERE WHAT IT READS IS OF BULK AT MOST 1048576: true; the input reads as it did. -/
def auditNumbersUptoRow : OpenClaim := { program := "ythnepnonknejaaadoor", sum := "899ec7ebe15613c6e24b7e3ac025e2c50acd8c51611ff91c33badcbed3280bf0", func := "winch/winchlaw30.AuditNumbers", spec := "auditNumbers", unfollowed := true, recurses := true, named := ["winch/trace.names"], apart := false, laid := [("winch/trace.names", laid_winch_trace_names)], narrowed := true }
def AuditNumbersUptoSaid : Prop := auditNumbersUptoRow.holds Tryd.pinned (OpenSpec.upto auditNumbersSpec)

end Rows
end Go.Proofs.YthnepnonknejaaaDoor
