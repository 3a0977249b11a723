/-
  DERIVED. GIVEN WITH THE SEED: THE CARDS: each row of YthnepnonknejaaaDoorRows.lean that lists a variable, with what it lists TIED to the program's text (the seventh form; the later family's looks); each row that meets fmt, with fmt's text TOLD by the authors' own Lean function (tested against real Go, not proved from fmt's source: count such statements apart). THE CARD IS WHAT COUNTS. Prove the row's statement (the work); the ties are given (YthnepnonknejaaaDoorTie.lean); close each card by the builder's one call (the guide's Derived/Test/ToyasCard.lean, 'card_holds'). Laid BY PROGRAM, IN A SANDBOX (cutbox-door.mjs). By AI agents, Wed Nov 11 2026. No macro, syntax, notation, axiom, sorry.
-/
import Derived.Test.YthnepnonknejaaaDoorRows
import GoSem.ClaimSeven
namespace Go.Proofs.YthnepnonknejaaaDoor
namespace Rows

/-- THE TIED CARD OF 'winchlaw30.AuditRules'. -/
def auditRulesCard : Claim7 := { stood := { row := auditRulesRow, standIns := [], harness := (true, "aec7a00b4ac5aa51d08b89a782b39bf20907cd1b490f9a5f2b45b0c526053229"), looks := false }, kinds := [], alts := [], laidByText := true, laidKinds := [.widerDeep], laidTests := true, laidLooks := .later }
def AuditRulesCardSaid : Prop := Claim7.holds Tryd.pinned (.plain (OpenSpec.ofChange auditRulesSpec)) auditRulesCard

/-- THE TIED CARD OF 'winchlaw30.AuditNumbers'. -/
def auditNumbersCard : Claim7 := { stood := { row := auditNumbersRow, standIns := [], harness := (true, "aec7a00b4ac5aa51d08b89a782b39bf20907cd1b490f9a5f2b45b0c526053229"), looks := false }, kinds := [], alts := [], laidByText := true, laidKinds := [.widerDeep], laidTests := true, laidLooks := .later }
def AuditNumbersCardSaid : Prop := Claim7.holds Tryd.pinned (.plain (OpenSpec.ofChange auditNumbersSpec)) auditNumbersCard

/-- THE SECOND FORM's CARD OF 'winchlaw30.AuditRules'. -/
def auditRulesUptoCard : Claim7 := { stood := { row := auditRulesUptoRow, standIns := [], harness := (true, "aec7a00b4ac5aa51d08b89a782b39bf20907cd1b490f9a5f2b45b0c526053229"), looks := false }, kinds := [], alts := [], laidByText := true, laidKinds := [.widerDeep], laidTests := true, laidLooks := .later }
def AuditRulesUptoCardSaid : Prop := Claim7.holds Tryd.pinned (.plain (OpenSpec.upto auditRulesSpec)) auditRulesUptoCard

/-- THE SECOND FORM's CARD OF 'winchlaw30.AuditNumbers'. -/
def auditNumbersUptoCard : Claim7 := { stood := { row := auditNumbersUptoRow, standIns := [], harness := (true, "aec7a00b4ac5aa51d08b89a782b39bf20907cd1b490f9a5f2b45b0c526053229"), looks := false }, kinds := [], alts := [], laidByText := true, laidKinds := [.widerDeep], laidTests := true, laidLooks := .later }
def AuditNumbersUptoCardSaid : Prop := Claim7.holds Tryd.pinned (.plain (OpenSpec.upto auditNumbersSpec)) auditNumbersUptoCard
end Rows
end Go.Proofs.YthnepnonknejaaaDoor
