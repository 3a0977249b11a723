import Derived.Test.YthnepnonknejaaaDoorF31
set_option linter.unusedVariables false
set_option linter.unusedSimpArgs false
namespace Go.Proofs.YthnepnonknejaaaDoor.P
open Go.RowKit Go.Proofs.YthnepnonknejaaaDoorW.PrintWords Go.Proofs.YthnepnonknejaaaDoorW.PrintLast Go.Proofs.YthnepnonknejaaaDoorW.PrintMore
def sameB (p x : S79) : Bool := decide (x.f0 = p.f0) && decide (x.f1 = p.f1)
def forced1 (b : Bool) (out : List S79) (p : S79) : List S79 := (out.filter fun x => !sameB p x) ++ (if b then [p] else [])
def forcedL (l0 l1 : List S79) (b : Bool) : List S79 := l1.foldl (forced1 b) l0
def forcedOkB (l0 l1 : List S79) (b : Bool) : Bool := (List.range (l1.length + 1)).all fun i => decide (((l1.take i).foldl (forced1 b) l0).length < 5864062014804)
theorem forcedOk_at {l0 l1 : List S79} {b : Bool} (h : forcedOkB l0 l1 b = true) (i : Nat) (hi : i ≤ l1.length) : ((l1.take i).foldl (forced1 b) l0).length < 5864062014804 := of_decide_eq_true (List.all_eq_true.1 h i (List.mem_range.2 (by omega)))
def audit_forced.f (k : Nat) (l0 l1 : List S79) (b : Bool) : Option (List S79) := if forcedOkB l0 l1 b = true then some (forcedL l0 l1 b) else none
theorem audit_forced.mono (a0 a1 : List S79) (a2 : Bool) (k : Nat) : LeO (audit_forced.f k a0 a1 a2) (audit_forced.f (k + 1) a0 a1 a2) := LeO.refl _
end Go.Proofs.YthnepnonknejaaaDoor.P
